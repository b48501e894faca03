/- spare.Give over a pager's inner pages. A pager as it is seen from without: the head, the pages, the savepoints; Take and Give keep heads right. -/
import Derived.Test.YtdmhbgpejppbkaaGreatXGbd
import Derived.Test.YtdmhbgpejppbkaaGreatXGbe
set_option maxRecDepth 100000
set_option maxHeartbeats 2000000
namespace Go.Proofs.YtdmhbgpejppbkaaGreat
open Go.Lib (hid)
open Go.RowKit Go.Maps
structure Lg (w:World) (L:PgL) (P:Pgr) (e0:Ev) (cz:Nat) (B:Int→By) (X Y:Nat→Prop) (w1 w2:World):Prop where
 i:In w L P e0 cz B (fun k=>X k∨Y k) w2
 y:∀ k,Y k→w1.heap.size≤k
 c:Ch (fun k=>¬ X k) w1 w2
section
variable {w w1 w2 w3:World} {L:PgL} {P:Pgr} {e0:Ev} {cz cz':Nat} {B B':Int→By} {X Y Z:Nat→Prop}
theorem Lg.start (h:In w L P e0 cz B X w1) (a b:Obj):Lg w L P e0 cz B X (fun k=>k=w1.heap.size∨k=w1.heap.size+1) w1 ((w1.alloc a).alloc b):=
 ⟨(Lc.start h a b).1,fun _ hk=>by omega,(Lc.start h a b).2⟩
theorem Lg.post (h:Lg w L P e0 cz B X Y w1 w2) (hb:Below w2.heap.size w2 w3):Lg w L P e0 cz B X Y w1 w3:=⟨h.i.post hb,h.y,h.c.trans (Ch.of_below hb)⟩
theorem Lg.alloc (h:Lg w L P e0 cz B X Y w1 w2) (o:Obj):Lg w L P e0 cz B X (fun k=>Y k∨k=w2.heap.size) w1 (w2.alloc o):=
 ⟨(h.i.alloc o).sub fun _ hk=>hk.elim (fun e=>.inl (.inl e)) (fun e=>e.elim (fun e=>.inl (.inr e)) .inr),fun k hk=>hk.elim (h.y k) (fun e=>e ▸ h.c.size),h.c.trans (Ch.of_below ((Below.refl _ w2).alloc (Nat.le_refl _) o))⟩
theorem Lg.ch {S:Nat→Prop} (h:Lg w L P e0 cz B X Y w1 w2) (hc:Ch S w2 w3) (hs:∀ k,S k→Y k):Lg w L P e0 cz B X Y w1 w3:=
 ⟨h.i.ch hc fun k e=>.inr (hs k e),h.y,h.c.then hc fun k e=>.inr (h.y k (hs k e))⟩
theorem Lg.call0 (h:Lg w L P e0 cz B X Y w1 w2) (hi:In w L P e0 cz' B' (fun k=>X k∨Y k) w3) (hc:Ch (fun k=>¬ (X k∨Y k)) w2 w3):Lg w L P e0 cz' B' X Y w1 w3:=
 ⟨hi,h.y,h.c.trans (hc.mono fun _ _ e hx=>e (.inl hx))⟩
theorem Lg.call (h:Lg w L P e0 cz B X Y w1 w2) (hi:In w L P e0 cz' B' (fun k=>(X k∨Y k)∨Z k) w3) (hc:Ch (fun k=>¬ (X k∨Y k)) w2 w3) (hz:∀ k,Z k→w1.heap.size≤k):Lg w L P e0 cz' B' X (fun k=>Y k∨Z k) w1 w3:=
 ⟨hi.sub fun _ hk=>hk.elim (fun e=>.inl (.inl e)) (fun e=>e.elim (fun e=>.inl (.inr e)) .inr),fun k hk=>hk.elim (h.y k) (hz k),h.c.trans (hc.mono fun _ _ e hx=>e (.inl hx))⟩
theorem Lg.fin (h:Lg w L P e0 cz B X Y w1 w2) {h0:Hd} (hr:w2.heap[w1.heap.size+1]?=some (fS h0)) (hy:Y (w1.heap.size+1)) (hd:Hd):
  (iT w2 (w1.heap.size+1) hd).heap[w1.heap.size+1]?=some (fS hd)∧In w L P e0 cz B X (iT w2 (w1.heap.size+1) hd)∧Ch (fun k=>¬ X k) w1 (iT w2 (w1.heap.size+1) hd):=
 have hc:=sA (Ch.refl (fun j=>j=w1.heap.size+1) w2) rfl hd
 ⟨lO hr hd,(h.i.ch hc fun k e=>.inr (e ▸ hy)).sub fun k hk=>.inl hk,h.c.then hc fun k e=>.inr (by omega)⟩
end
theorem uL (h:Hd) (n:Int) (w1:World) {w:World} {L:PgL} {P:Pgr} {e0:Ev} {cz:Nat} {B:Int→By} {X:Nat→Prop} (hi:In w L P e0 cz B X w1) (hcz:cz≤298) (hl:∀ n,(B n).length=232) (hk:h.Ok) (hpN:h.pages≤e0.N) (htr:h.trunk<e0.N):
  Calls Tryz.prog 90 #[.agg #[.int .i64 h.mode,.int .i64 h.pages,.int .i64 h.trunk,.int .i64 h.spare,.int .i64 h.root,.int .u64 h.change],nz L.gp,.int .i64 n] w1
   fun e w'=>e=.returned (.tuple #[(aP h B n).h.val,.int .i64 (aP h B n).e])∧In w L P e0 (bv cz (aP h B n).e) (aP h B n).B X w'∧Ch (fun k=>¬ X k) w1 w':=by
 have HI:=hid hi;have HCZ:=hid hcz;clear hi hcz;obtain ⟨hm,hp,ht,hs,hr,hc⟩:=h;obtain ⟨k1,k2,k3,k4,k5,k6⟩:=hk;simp only at k1 k2 k3 k4 k5 k6 hpN htr;have HQ:=hid (show ((ht.toNat:Nat):Int)=ht by omega);have HPN:=hid (And.intro hpN htr);clear hpN htr;unfold nz cP ai;go_enter Tryz.func90,Tryz.ntmps90;go_upto_region 1 with fail
 have HX1:=hid (ar (af (w0:=w1) (g:=w1.heap.size) (o:=fS ⟨hm,hp,ht,hs,hr,hc⟩) rfl) (fS Hd.zero));have HR1:=hid (af (w0:=w1.alloc (fS ⟨hm,hp,ht,hs,hr,hc⟩)) (g:=w1.heap.size+1) (o:=fS Hd.zero) (by simp));have HL1:=hid (Lg.start HI.out (fS ⟨hm,hp,ht,hs,hr,hc⟩) (fS Hd.zero));generalize hw1:(w1.alloc (.cells #[.int .i64 hm,.int .i64 hp,.int .i64 ht,.int .i64 hs,.int .i64 hr,.int .u64 hc] 38)).alloc (.cells #[.int .i64 0,.int .i64 0,.int .i64 0,.int .i64 0,.int .i64 0,.int .u64 0] 38)=v1 at *;have hw2:(w1.alloc (fS ⟨hm,hp,ht,hs,hr,hc⟩)).alloc (fS Hd.zero)=v1:=hw1;rw [hw2] at HX1 HR1 HL1;clear hw1 hw2;obtain ⟨a0,a1,a2,a3,a4,a5,a6⟩:=aE HX1.out;obtain ⟨b0,b1,b2,b3,b4,b5⟩:=bi HX1.out;obtain ⟨c0,c1,c2,c3,c4,c5,c6⟩:=aE HR1.out;obtain ⟨d0,d1,d2,d3,d4,d5⟩:=bi HR1.out;simp only [Hd.zero] at a0 a1 a2 a3 a4 a5 c0 c1 c2 c3 c4 c5;by_cases hn:n<1∨hp≤n
 ·have HT:=hid (show aP ⟨hm,hp,ht,hs,hr,hc⟩ B n=aM B 1 by unfold aP;rw [if_pos hn]);rcases hn with hn | hn
  ·go_wp2_with fail;have HF:=hid (HL1.out.fin HR1.out (.inr rfl) ⟨0,0,0,0,0,0⟩);obtain ⟨q0,q1,q2,q3,q4,q5,q6⟩:=aE HF.out.1;generalize hwf:iT (v1) (w1.heap.size+1) ⟨0,0,0,0,0,0⟩=wf at *;have hwf2:((((((v1).setCell ⟨w1.heap.size+1,0,none⟩ (.int .i64 (0))).setCell ⟨w1.heap.size+1,1,none⟩ (.int .i64 (0))).setCell ⟨w1.heap.size+1,2,none⟩ (.int .i64 (0))).setCell ⟨w1.heap.size+1,3,none⟩ (.int .i64 (0))).setCell ⟨w1.heap.size+1,4,none⟩ (.int .i64 (0))).setCell ⟨w1.heap.size+1,5,none⟩ (.int .u64 (0))=wf:=hwf;rw [hwf2];exact bodyPost_ret (v:=.tuple #[.agg #[.int .i64 (0),.int .i64 (0),.int .i64 (0),.int .i64 (0),.int .i64 (0),.int .u64 (0)],.int .i64 (1)]) (by simp [results,Tryz.results90,go_sem,q0,q1,q2,q3,q4,q5]) rfl ⟨by rw [HT.out];rfl,(by rw [HT.out];first | exact HF.out.2.1.mono (by first | (unfold bv aM;simp <;> omega) | (unfold bv;simp <;> omega)) | exact (HF.out.2.1.mono (by first | (unfold bv aM;simp <;> omega) | (unfold bv;simp <;> omega))).drew | exact (HF.out.2.1.mono (by first | (unfold bv aM;simp <;> omega) | (unfold bv;simp <;> omega))).drew.drew),(by first | exact HF.out.2.2 | exact HF.out.2.2.drew | exact HF.out.2.2.drew.drew)⟩
  ·have hn2:(1:Int)≤n:=by omega
   go_wp2_with fail;have HF:=hid (HL1.out.fin HR1.out (.inr rfl) ⟨0,0,0,0,0,0⟩);obtain ⟨q0,q1,q2,q3,q4,q5,q6⟩:=aE HF.out.1;generalize hwf:iT (v1) (w1.heap.size+1) ⟨0,0,0,0,0,0⟩=wf at *;have hwf2:((((((v1).setCell ⟨w1.heap.size+1,0,none⟩ (.int .i64 (0))).setCell ⟨w1.heap.size+1,1,none⟩ (.int .i64 (0))).setCell ⟨w1.heap.size+1,2,none⟩ (.int .i64 (0))).setCell ⟨w1.heap.size+1,3,none⟩ (.int .i64 (0))).setCell ⟨w1.heap.size+1,4,none⟩ (.int .i64 (0))).setCell ⟨w1.heap.size+1,5,none⟩ (.int .u64 (0))=wf:=hwf;rw [hwf2];exact bodyPost_ret (v:=.tuple #[.agg #[.int .i64 (0),.int .i64 (0),.int .i64 (0),.int .i64 (0),.int .i64 (0),.int .u64 (0)],.int .i64 (1)]) (by simp [results,Tryz.results90,go_sem,q0,q1,q2,q3,q4,q5]) rfl ⟨by rw [HT.out];rfl,(by rw [HT.out];first | exact HF.out.2.1.mono (by first | (unfold bv aM;simp <;> omega) | (unfold bv;simp <;> omega)) | exact (HF.out.2.1.mono (by first | (unfold bv aM;simp <;> omega) | (unfold bv;simp <;> omega))).drew | exact (HF.out.2.1.mono (by first | (unfold bv aM;simp <;> omega) | (unfold bv;simp <;> omega))).drew.drew),(by first | exact HF.out.2.2 | exact HF.out.2.2.drew | exact HF.out.2.2.drew.drew)⟩
 ·have hn1:(1:Int)≤n:=by omega
  have hn2:n<hp:=by omega
  have HNQ:=hid (show ((n.toNat:Nat):Int)=n by omega);by_cases hsp:hp - 1≤hs
  ·have HT:=hid (show aP ⟨hm,hp,ht,hs,hr,hc⟩ B n=aM B 30 by unfold aP;rw [if_neg hn,if_pos hsp]);go_wp2_with fail;have HF:=hid (HL1.out.fin HR1.out (.inr rfl) ⟨0,0,0,0,0,0⟩);obtain ⟨q0,q1,q2,q3,q4,q5,q6⟩:=aE HF.out.1;generalize hwf:iT (v1) (w1.heap.size+1) ⟨0,0,0,0,0,0⟩=wf at *;have hwf2:((((((v1).setCell ⟨w1.heap.size+1,0,none⟩ (.int .i64 (0))).setCell ⟨w1.heap.size+1,1,none⟩ (.int .i64 (0))).setCell ⟨w1.heap.size+1,2,none⟩ (.int .i64 (0))).setCell ⟨w1.heap.size+1,3,none⟩ (.int .i64 (0))).setCell ⟨w1.heap.size+1,4,none⟩ (.int .i64 (0))).setCell ⟨w1.heap.size+1,5,none⟩ (.int .u64 (0))=wf:=hwf;rw [hwf2];exact bodyPost_ret (v:=.tuple #[.agg #[.int .i64 (0),.int .i64 (0),.int .i64 (0),.int .i64 (0),.int .i64 (0),.int .u64 (0)],.int .i64 (30)]) (by simp [results,Tryz.results90,go_sem,q0,q1,q2,q3,q4,q5]) rfl ⟨by rw [HT.out];rfl,(by rw [HT.out];first | exact HF.out.2.1.mono (by first | (unfold bv aM;simp <;> omega) | (unfold bv;simp <;> omega)) | exact (HF.out.2.1.mono (by first | (unfold bv aM;simp <;> omega) | (unfold bv;simp <;> omega))).drew | exact (HF.out.2.1.mono (by first | (unfold bv aM;simp <;> omega) | (unfold bv;simp <;> omega))).drew.drew),(by first | exact HF.out.2.2 | exact HF.out.2.2.drew | exact HF.out.2.2.drew.drew)⟩
  ·have hsp2:hs<hp - 1:=by omega
   have hmk:=yx v1 50 (by omega);have HL2:=hid (HL1.out.post ((Below.refl _ v1).alloc (Nat.le_refl _) (.cells ((List.replicate 50 (0:Int)).flatMap iC).toArray 3)));have hv1:w1.heap.size+1<v1.heap.size:=ab HR1.out;have HX2:=hid (ar HX1.out (.cells ((List.replicate 50 (0:Int)).flatMap iC).toArray 3));have HR2:=hid (ar HR1.out (.cells ((List.replicate 50 (0:Int)).flatMap iC).toArray 3));have hs2:w1.heap.size+2<(v1.alloc (.cells ((List.replicate 50 (0:Int)).flatMap iC).toArray 3)).heap.size:=by simp;omega
   generalize v1.alloc (.cells ((List.replicate 50 (0:Int)).flatMap iC).toArray 3)=w2 at *;generalize v1.heap.size=g1 at *;have hmk2:(Instr.makeSlice 30 (.int .i64 50) (.int .i64 50)).run Tryz.prog v1=.ok (.slice (some ⟨g1,0,none⟩) 50 50) w2:=hmk;clear hmk;have HX3:=hid (ar HX2.out (.cells #[.int .i64 0,.slice (some ⟨g1,0,none⟩) 50 50] 164));have HR3:=hid (ar HR2.out (.cells #[.int .i64 0,.slice (some ⟨g1,0,none⟩) 50 50] 164));have HL3:=hid (HL2.out.alloc (.cells #[.int .i64 0,.slice (some ⟨g1,0,none⟩) 50 50] 164));have HG3:=hid (af (w0:=w2) (g:=w2.heap.size) (o:=.cells #[.int .i64 0,.slice (some ⟨g1,0,none⟩) 50 50] 164) rfl);have hn3:n≠0:=by omega
   go_upto_region 7 with fail
   generalize w2.alloc (.cells #[.int .i64 0,.slice (some ⟨g1,0,none⟩) 50 50] 164)=w3 at *;generalize w2.heap.size=g2 at *;clear a0 a1 a2 a3 a4 a5 b0 b1 b2 b3 b4 b5 c0 c1 c2 c3 c4 c5 d0 d1 d2 d3 d4 d5 hmk2;obtain ⟨a0,a1,a2,a3,a4,a5,a7⟩:=aE HX3.out;obtain ⟨b0,b1,b2,b3,b4,b5⟩:=bi HX3.out;obtain ⟨c0,c1,c2,c3,c4,c5,c7⟩:=aE HR3.out;obtain ⟨d0,d1,d2,d3,d4,d5⟩:=bi HR3.out;obtain ⟨t0,t1,t2,t3,t4⟩:=db HG3.out;simp only [Hd.zero] at a0 a1 a2 a3 a4 a5 c0 c1 c2 c3 c4 c5;by_cases ht0:ht=0
   ·subst ht0;have HT:=hid (show aP ⟨hm,hp,0,hs,hr,hc⟩ B n=⟨⟨hm,hp,n,hs+1,hr,hc⟩,0,bW B n (aT (eG ⟨0,[]⟩))⟩ by unfold aP;rw [if_neg hn,if_neg hsp,if_pos rfl]);have HLB:=hid (show jJ ⟨0,[]⟩ B n=bW B n (aT (eG ⟨0,[]⟩))∧kn ⟨0,[]⟩=0 from ⟨rfl,rfl⟩);have HLY:=hid (iR n.toNat ⟨0,[]⟩ (.slice none 0 0) w3 HL3.out.i (by have:=HCZ.out;omega) (by omega) (by have:=HPN.out;omega) Sl.nil (by simp));unfold nz cP ai at HLY;rw [HNQ.out] at HLY;go_wp2_with fail;refine HLY.out.mono ?_;rintro e wl ⟨rfl,hbk,hch⟩;have HXL:=HX3;have HRL:=HR3;have HLL:=HL3;have HM5:=hid (show Lg w L P e0 _ (bW B n (aT (eG ⟨0,[]⟩))) X _ w1 wl∧wl.heap[w1.heap.size]?=some (fS ⟨hm,hp,0,hs,hr,hc⟩)∧wl.heap[w1.heap.size+1]?=some (fS Hd.zero) from
     ⟨by rw [← HLB.out.1];exact HLL.out.call0 hbk hch,hch.keep HXL.out (fun hh=>hh (.inr (by first | exact .inl (.inl rfl) | exact .inl (.inl (.inl rfl))))),hch.keep HRL.out (fun hh=>hh (.inr (by first | exact .inl (.inr rfl) | exact .inl (.inl (.inr rfl)))))⟩)
    rw [HLB.out.2];clear hbk hch a0 a1 a2 a3 a4 a5 b0 b1 b2 b3 b4 b5 c0 c1 c2 c3 c4 c5 d0 d1 d2 d3 d4 d5 t0 t1 t2 t3 t4;have hlt5:=ab HM5.out.2.1;have hfz5:=ah HM5.out.2.1;have b2:=hfz5 2;have a2:=(aE HM5.out.2.1).2.2.1;simp only at a2;clear hfz5;have HX6:=hid (ae HM5.out.2.1 2 (.int .i64 n));have HR6:=hid (cI HM5.out.2.2 (a:=⟨w1.heap.size,2,none⟩) (by simp) (.int .i64 n));have HL6:=hid (HM5.out.1.ch ((Ch.refl (fun j=>j=w1.heap.size) wl).setCell (p:=⟨w1.heap.size,2,none⟩) rfl (.int .i64 n)) (fun k e=>by subst e;first | exact .inl (.inl rfl) | exact .inl (.inl (.inl rfl))));go_upto_region 16 with fail
    generalize wl.setCell ⟨w1.heap.size,2,none⟩ (.int .i64 n)=wc at *;clear a2 b2;have HX7:=hid (show wc.heap[w1.heap.size]?=some (fS ⟨hm,hp,n,hs,hr,hc⟩) from HX6.out);clear HX6;obtain ⟨a0,a1,a2,a3,a4,a5,a7⟩:=aE HX7.out;obtain ⟨b0,b1,b2,b3,b4,b5⟩:=bi HX7.out;obtain ⟨c0,c1,c2,c3,c4,c5,c7⟩:=aE HR6.out;obtain ⟨d0,d1,d2,d3,d4,d5⟩:=bi HR6.out;simp only [Hd.zero] at a0 a1 a2 a3 a4 a5 c0 c1 c2 c3 c4 c5;go_wp2_with fail;have HF:=hid ((HL6.out.ch ((Ch.refl (fun j=>j=w1.heap.size) wc).setCell (p:=⟨w1.heap.size,3,none⟩) rfl (.int .i64 (hs+1))) (fun k e=>by subst e;first | exact .inl (.inl rfl) | exact .inl (.inl (.inl rfl)))).fin (cI HR6.out (a:=⟨w1.heap.size,3,none⟩) (by simp) (.int .i64 (hs+1))) (by first | exact .inl (.inr rfl) | exact .inl (.inl (.inr rfl))) ⟨hm,hp,n,hs+1,hr,hc⟩);obtain ⟨q0,q1,q2,q3,q4,q5,q6⟩:=aE HF.out.1;generalize hwf:iT (wc.setCell ⟨w1.heap.size,3,none⟩ (.int .i64 (hs+1))) (w1.heap.size+1) ⟨hm,hp,n,hs+1,hr,hc⟩=wf at *;have hwf2:((((((wc.setCell ⟨w1.heap.size,3,none⟩ (.int .i64 (hs+1))).setCell ⟨w1.heap.size+1,0,none⟩ (.int .i64 (hm))).setCell ⟨w1.heap.size+1,1,none⟩ (.int .i64 (hp))).setCell ⟨w1.heap.size+1,2,none⟩ (.int .i64 (n))).setCell ⟨w1.heap.size+1,3,none⟩ (.int .i64 (hs+1))).setCell ⟨w1.heap.size+1,4,none⟩ (.int .i64 (hr))).setCell ⟨w1.heap.size+1,5,none⟩ (.int .u64 (hc))=wf:=hwf;rw [hwf2];exact bodyPost_ret (v:=.tuple #[.agg #[.int .i64 (hm),.int .i64 (hp),.int .i64 (n),.int .i64 (hs+1),.int .i64 (hr),.int .u64 (hc)],.int .i64 (0)]) (by simp [results,Tryz.results90,go_sem,q0,q1,q2,q3,q4,q5]) rfl ⟨by rw [HT.out];rfl,(by rw [HT.out];first | exact HF.out.2.1.mono (by first | (unfold bv aM;simp <;> omega) | (unfold bv;simp <;> omega)) | exact (HF.out.2.1.mono (by first | (unfold bv aM;simp <;> omega) | (unfold bv;simp <;> omega))).drew | exact (HF.out.2.1.mono (by first | (unfold bv aM;simp <;> omega) | (unfold bv;simp <;> omega))).drew.drew),(by first | exact HF.out.2.2 | exact HF.out.2.2.drew | exact HF.out.2.2.drew.drew)⟩
   ·have hz0:(ht == 0)=false:=by simpa using ht0
    have hg2:g2<w3.heap.size:=ab HG3.out;go_wp2_with fail;have HTK0:=hid (kF ht.toNat w3 HL3.out.i (by have:=HCZ.out;omega) (by omega) (by have:=HPN.out;omega) (hl _));unfold nz cP ai at HTK0;rw [HQ.out] at HTK0;refine HTK0.out.mono ?_;obtain ⟨⟨tn,tl⟩,hT⟩:∃ T,cS (B ht)=T:=⟨_,rfl⟩;obtain ⟨te,hte⟩:∃ te,jk (B ht)=te:=⟨_,rfl⟩;rw [hT,hte];have HTT:=hid hT;have HTE:=hid hte;clear hT hte;rintro e w4 ⟨lv,rfl,ho,hi4,hc4⟩;simp only at ho;obtain ⟨A,c,rfl⟩:=Sl.len' (ho.sl dF);have HX4:=hid (hc4.keep HX3.out (fun hh=>hh (.inr (.inl (.inl rfl)))));have HR4:=hid (hc4.keep HR3.out (fun hh=>hh (.inr (.inl (.inr rfl)))));have HG4:=hid (hc4.keep HG3.out (fun hh=>hh (.inr (.inr rfl))));have hw34:w3.heap.size≤w4.heap.size:=hc4.size;obtain ⟨lvb,hlvb⟩:∃ v:Value,v=.slice A tl.length c:=⟨_,rfl⟩;rw [← hlvb] at hi4;have HL4:=hid (HL3.out.call hi4 hc4 (fun k e=>by rw [hlvb] at e;have:=(ho.lt k e).1;omega));have HLV:=hid hlvb;have hg4:g2<w4.heap.size:=ab HG4.out;have hne2:w1.heap.size≠g2:=by omega
    have hne3:w1.heap.size+1≠g2:=by omega
    obtain ⟨t0,t1,t2,t3,t4⟩:=db HG4.out;have hc5:Ch (fun j=>j=g2) w4 ((w4.setCell ⟨g2,0,none⟩ (.int .i64 tn)).setCell ⟨g2,1,none⟩ (.slice A tl.length c)):=((Ch.refl (fun j=>j=g2) w4).setCell (p:=⟨g2,0,none⟩) rfl _).setCell (p:=⟨g2,1,none⟩) rfl _;have HO5:=hid (ho.ch hc5 (fun j hj e=>by have:=(ho.lt j hj).1;omega));have HX5:=hid (hc5.keep HX4.out hne2);have HR5:=hid (hc5.keep HR4.out hne3);have HG5:=hid (show ((w4.setCell ⟨g2,0,none⟩ (.int .i64 tn)).setCell ⟨g2,1,none⟩ (.slice A tl.length c)).heap[g2]?=some (.cells #[.int .i64 tn,.slice A tl.length c] 164 (0,0)) from ae (ae HG4.out 0 (.int .i64 tn)) 1 (.slice A tl.length c));have HL5:=hid (HL4.out.ch hc5 (fun k e=>.inl (.inr e)));have hs5:w3.heap.size≤((w4.setCell ⟨g2,0,none⟩ (.int .i64 tn)).setCell ⟨g2,1,none⟩ (.slice A tl.length c)).heap.size:=Nat.le_trans hw34 hc5.size;clear hi4 hc4 hlvb ho hc5 a0 a1 a2 a3 a4 a5 b0 b1 b2 b3 b4 b5 c0 c1 c2 c3 c4 c5 d0 d1 d2 d3 d4 d5;go_upto_region 9 with fail
    generalize (w4.setCell ⟨g2,0,none⟩ (.int .i64 tn)).setCell ⟨g2,1,none⟩ (.slice A tl.length c)=w5 at *;clear t0 t1 t2 t3 t4;obtain ⟨a0,a1,a2,a3,a4,a5,a7⟩:=aE HX5.out;obtain ⟨b0,b1,b2,b3,b4,b5⟩:=bi HX5.out;obtain ⟨c0,c1,c2,c3,c4,c5,c7⟩:=aE HR5.out;obtain ⟨d0,d1,d2,d3,d4,d5⟩:=bi HR5.out;obtain ⟨t0,t1,t2,t3,t4⟩:=db HG5.out;simp only [Hd.zero] at a0 a1 a2 a3 a4 a5 c0 c1 c2 c3 c4 c5;cases hd:cT (B ht)
    ·have HT:=hid (show aP ⟨hm,hp,ht,hs,hr,hc⟩ B n=aM B 30 by unfold aP;rw [if_neg hn,if_neg (by simp only;omega),if_neg ht0,if_pos hd]);obtain rfl:te=30:=by rw [← HTE.out];simp [jk,hd]
     clear HTE;go_wp2_with fail;have HF:=hid (HL5.out.fin HR5.out (by first | exact .inl (.inr rfl) | exact .inl (.inl (.inr rfl))) ⟨0,0,0,0,0,0⟩);obtain ⟨q0,q1,q2,q3,q4,q5,q6⟩:=aE HF.out.1;generalize hwf:iT (w5) (w1.heap.size+1) ⟨0,0,0,0,0,0⟩=wf at *;have hwf2:((((((w5).setCell ⟨w1.heap.size+1,0,none⟩ (.int .i64 (0))).setCell ⟨w1.heap.size+1,1,none⟩ (.int .i64 (0))).setCell ⟨w1.heap.size+1,2,none⟩ (.int .i64 (0))).setCell ⟨w1.heap.size+1,3,none⟩ (.int .i64 (0))).setCell ⟨w1.heap.size+1,4,none⟩ (.int .i64 (0))).setCell ⟨w1.heap.size+1,5,none⟩ (.int .u64 (0))=wf:=hwf;rw [hwf2];exact bodyPost_ret (v:=.tuple #[.agg #[.int .i64 (0),.int .i64 (0),.int .i64 (0),.int .i64 (0),.int .i64 (0),.int .u64 (0)],.int .i64 (30)]) (by simp [results,Tryz.results90,go_sem,q0,q1,q2,q3,q4,q5]) rfl ⟨by rw [HT.out];rfl,(by rw [HT.out];first | exact HF.out.2.1.mono (by first | (unfold bv aM;simp <;> omega) | (unfold bv;simp <;> omega)) | exact (HF.out.2.1.mono (by first | (unfold bv aM;simp <;> omega) | (unfold bv;simp <;> omega))).drew | exact (HF.out.2.1.mono (by first | (unfold bv aM;simp <;> omega) | (unfold bv;simp <;> omega))).drew.drew),(by first | exact HF.out.2.2 | exact HF.out.2.2.drew | exact HF.out.2.2.drew.drew)⟩
    ·obtain rfl:te=0:=by rw [← HTE.out];simp [jk,hd]
     have HDP:=hid (show bt (B ht)=⟨tn,tl⟩ by rw [← HTT.out];simp [cS,hd]);clear HTE HTT;have HBD:=hid (show bE ⟨tn,tl⟩=false by have:=jR hd;rw [HDP.out] at this;exact this);have hl50:tl.length≤50:=(py HBD.out).2.2.1;have htk0:1≤ht:=by omega
     by_cases h50:tl.length<50
     ·have HT:=hid (show aP ⟨hm,hp,ht,hs,hr,hc⟩ B n=⟨⟨hm,hp,ht,hs+1,hr,hc⟩,0,bW B ht (aT (eG ⟨tn,tl ++ [n]⟩))⟩ by
       unfold aP;rw [if_neg hn,if_neg (by simp only;omega),if_neg ht0,if_neg (by rw [hd];simp),HDP.out,if_pos h50])
      have h50i:(tl.length:Int)<50:=by omega
      have hb2:bE ⟨tn,tl ++ [n]⟩=false:=by have h:=HBD.out;unfold bE at h ⊢;simp only [Bool.or_eq_false_iff,List.any_append] at h ⊢;refine ⟨⟨h.1.1,by simp;omega⟩,h.2,?_⟩;simp [dX];omega
      have HLB:=hid (show jJ ⟨tn,tl ++ [n]⟩ B ht=bW B ht (aT (eG ⟨tn,tl ++ [n]⟩))∧kn ⟨tn,tl ++ [n]⟩=0 by unfold jJ kn;rw [hb2];exact ⟨rfl,rfl⟩);clear hb2;go_upto_region 12 with fail
      go_wp2_with (at_builtin;refine Hid.out ?_);refine hid ?_;refine dx rfl rfl zC rfl rfl (HO5.out.alloc _) (Sl.one n (by simp) dF (by rfl)) (by simp [maxLen];omega) (by simp;omega) (by simp;omega) ?_;intro v' w6 ho hgr hat;have hc6:=Ch.of_grown (S:=fun k=>w3.heap.size≤k) hgr (fun k hk=>(HO5.out.lt k hk).1);have HX6:=hid (hc6.keep (ar HX5.out _) (by omega));have HR6:=hid (hc6.keep (ar HR5.out _) (by omega));have HG6:=hid (hc6.keep (ar HG5.out _) (by omega));have HL6a:=hid ((HL5.out.post ((Below.refl _ w5).alloc (Nat.le_refl _) (.cells #[.int .i64 n] 3))).ch (Ch.of_grown (S:=fun k=>lvb.ownBlock=some k) hgr (fun k hk=>by rw [HLV.out];exact hk)) (fun k e=>.inr e));have HO6:=hid ho;have hs6:w3.heap.size≤w6.heap.size:=Nat.le_trans (by simp;omega) hc6.size;obtain ⟨A6,c6,hv6⟩:=Sl.len' (ho.sl dF);rw [show (tl ++ [n]).length=tl.length+1 by simp] at hv6;subst hv6;clear ho hgr hat hc6 t0 t1 t2 t3 t4 a0 a1 a2 a3 a4 a5 b0 b1 b2 b3 b4 b5 c0 c1 c2 c3 c4 c5 d0 d1 d2 d3 d4 d5;obtain ⟨t0,t1,t2,t3,t4⟩:=db HG6.out;have hc7:Ch (fun j=>j=g2) w6 (w6.setCell ⟨g2,1,none⟩ (.slice A6 (tl.length+1) c6)):=(Ch.refl (fun j=>j=g2) w6).setCell (p:=⟨g2,1,none⟩) rfl _;have HO7:=hid (HO6.out.ch hc7 (fun j hj e=>by have:=(HO6.out.lt j hj).1;omega));have HX7:=hid (hc7.keep HX6.out hne2);have HR7:=hid (hc7.keep HR6.out hne3);have HG7:=hid (show (w6.setCell ⟨g2,1,none⟩ (.slice A6 (tl.length+1) c6)).heap[g2]?=some (.cells #[.int .i64 tn,.slice A6 (tl.length+1) c6] 164 (0,0)) from ae HG6.out 1 (.slice A6 (tl.length+1) c6));have HL7:=hid (HL6a.out.ch hc7 (fun k e=>.inl (.inr e)));clear hc7;go_upto_region 13 with fail
      generalize w6.setCell ⟨g2,1,none⟩ (.slice A6 (tl.length+1) c6)=w7 at *;clear t0 t1 t2 t3 t4;obtain ⟨a0,a1,a2,a3,a4,a5,a7⟩:=aE HX7.out;obtain ⟨t0,t1,t2,t3,t4⟩:=db HG7.out;simp only at a0 a1 a2 a3 a4 a5;go_wp2_with fail;have HLY:=hid (iR ht.toNat ⟨tn,tl ++ [n]⟩ (.slice A6 (tl.length+1) c6) w7 HL7.out.i (by have:=HCZ.out;omega) (by omega) (by have:=HPN.out;omega) (HO7.out.sl dF) (by simp;omega));unfold nz cP ai at HLY;rw [HQ.out] at HLY;refine HLY.out.mono ?_;rintro e wc ⟨rfl,hbk,hch⟩;rw [HLB.out.2];have HL6:=hid (show Lg w L P e0 (cz+2+102) (bW B ht (aT (eG ⟨tn,tl ++ [n]⟩))) X _ w1 wc from by rw [← HLB.out.1];exact HL7.out.call0 hbk hch);have HX6:=hid (hch.keep HX7.out (fun hh=>hh (.inr (by first | exact .inl (.inl rfl) | exact .inl (.inl (.inl rfl))))));have HR6:=hid (hch.keep HR7.out (fun hh=>hh (.inr (by first | exact .inl (.inr rfl) | exact .inl (.inl (.inr rfl))))));clear hbk hch a0 a1 a2 a3 a4 a5 t0 t1 t2 t3 t4 HX7;have HX7:=HX6;clear HX6;obtain ⟨a0,a1,a2,a3,a4,a5,a7⟩:=aE HX7.out;obtain ⟨b0,b1,b2,b3,b4,b5⟩:=bi HX7.out;obtain ⟨c0,c1,c2,c3,c4,c5,c7⟩:=aE HR6.out;obtain ⟨d0,d1,d2,d3,d4,d5⟩:=bi HR6.out;simp only [Hd.zero] at a0 a1 a2 a3 a4 a5 c0 c1 c2 c3 c4 c5;go_wp2_with fail;have HF:=hid ((HL6.out.ch ((Ch.refl (fun j=>j=w1.heap.size) wc).setCell (p:=⟨w1.heap.size,3,none⟩) rfl (.int .i64 (hs+1))) (fun k e=>by subst e;first | exact .inl (.inl rfl) | exact .inl (.inl (.inl rfl)))).fin (cI HR6.out (a:=⟨w1.heap.size,3,none⟩) (by simp) (.int .i64 (hs+1))) (by first | exact .inl (.inr rfl) | exact .inl (.inl (.inr rfl))) ⟨hm,hp,ht,hs+1,hr,hc⟩);obtain ⟨q0,q1,q2,q3,q4,q5,q6⟩:=aE HF.out.1;generalize hwf:iT (wc.setCell ⟨w1.heap.size,3,none⟩ (.int .i64 (hs+1))) (w1.heap.size+1) ⟨hm,hp,ht,hs+1,hr,hc⟩=wf at *;have hwf2:((((((wc.setCell ⟨w1.heap.size,3,none⟩ (.int .i64 (hs+1))).setCell ⟨w1.heap.size+1,0,none⟩ (.int .i64 (hm))).setCell ⟨w1.heap.size+1,1,none⟩ (.int .i64 (hp))).setCell ⟨w1.heap.size+1,2,none⟩ (.int .i64 (ht))).setCell ⟨w1.heap.size+1,3,none⟩ (.int .i64 (hs+1))).setCell ⟨w1.heap.size+1,4,none⟩ (.int .i64 (hr))).setCell ⟨w1.heap.size+1,5,none⟩ (.int .u64 (hc))=wf:=hwf;rw [hwf2];exact bodyPost_ret (v:=.tuple #[.agg #[.int .i64 (hm),.int .i64 (hp),.int .i64 (ht),.int .i64 (hs+1),.int .i64 (hr),.int .u64 (hc)],.int .i64 (0)]) (by simp [results,Tryz.results90,go_sem,q0,q1,q2,q3,q4,q5]) rfl ⟨by rw [HT.out];rfl,(by rw [HT.out];first | exact HF.out.2.1.mono (by first | (unfold bv aM;simp <;> omega) | (unfold bv;simp <;> omega)) | exact (HF.out.2.1.mono (by first | (unfold bv aM;simp <;> omega) | (unfold bv;simp <;> omega))).drew | exact (HF.out.2.1.mono (by first | (unfold bv aM;simp <;> omega) | (unfold bv;simp <;> omega))).drew.drew),(by first | exact HF.out.2.2 | exact HF.out.2.2.drew | exact HF.out.2.2.drew.drew)⟩
     ·have HT:=hid (show aP ⟨hm,hp,ht,hs,hr,hc⟩ B n=⟨⟨hm,hp,n,hs+1,hr,hc⟩,0,bW B n (aT (eG ⟨ht,[]⟩))⟩ by
       unfold aP;rw [if_neg hn,if_neg (by simp only;omega),if_neg ht0,if_neg (by rw [hd];simp),HDP.out,if_neg h50])
      have h50i:(50:Int)≤(tl.length:Int):=by omega
      have HLB:=hid (show jJ ⟨ht,[]⟩ B n=bW B n (aT (eG ⟨ht,[]⟩))∧kn ⟨ht,[]⟩=0 by
       have:bE ⟨ht,[]⟩=false:=by unfold bE;simp [dX];omega
       unfold jJ kn;rw [this];exact ⟨rfl,rfl⟩)
      go_wp2_with fail;have HLY:=hid (iR n.toNat ⟨ht,[]⟩ (.slice none 0 0) w5 HL5.out.i (by have:=HCZ.out;omega) (by omega) (by have:=HPN.out;omega) Sl.nil (by simp));unfold nz cP ai at HLY;rw [HNQ.out] at HLY;refine HLY.out.mono ?_;rintro e wl ⟨rfl,hbk,hch⟩;have HXL:=HX5;have HRL:=HR5;have HLL:=HL5;have HM5:=hid (show Lg w L P e0 _ (bW B n (aT (eG ⟨ht,[]⟩))) X _ w1 wl∧wl.heap[w1.heap.size]?=some (fS ⟨hm,hp,ht,hs,hr,hc⟩)∧wl.heap[w1.heap.size+1]?=some (fS Hd.zero) from
       ⟨by rw [← HLB.out.1];exact HLL.out.call0 hbk hch,hch.keep HXL.out (fun hh=>hh (.inr (by first | exact .inl (.inl rfl) | exact .inl (.inl (.inl rfl))))),hch.keep HRL.out (fun hh=>hh (.inr (by first | exact .inl (.inr rfl) | exact .inl (.inl (.inr rfl)))))⟩)
      rw [HLB.out.2];clear hbk hch a0 a1 a2 a3 a4 a5 b0 b1 b2 b3 b4 b5 c0 c1 c2 c3 c4 c5 d0 d1 d2 d3 d4 d5 t0 t1 t2 t3 t4;have hlt5:=ab HM5.out.2.1;have hfz5:=ah HM5.out.2.1;have b2:=hfz5 2;have a2:=(aE HM5.out.2.1).2.2.1;simp only at a2;clear hfz5;have HX6:=hid (ae HM5.out.2.1 2 (.int .i64 n));have HR6:=hid (cI HM5.out.2.2 (a:=⟨w1.heap.size,2,none⟩) (by simp) (.int .i64 n));have HL6:=hid (HM5.out.1.ch ((Ch.refl (fun j=>j=w1.heap.size) wl).setCell (p:=⟨w1.heap.size,2,none⟩) rfl (.int .i64 n)) (fun k e=>by subst e;first | exact .inl (.inl rfl) | exact .inl (.inl (.inl rfl))));go_upto_region 16 with fail
      generalize wl.setCell ⟨w1.heap.size,2,none⟩ (.int .i64 n)=wc at *;clear a2 b2;have HX7:=hid (show wc.heap[w1.heap.size]?=some (fS ⟨hm,hp,n,hs,hr,hc⟩) from HX6.out);clear HX6;obtain ⟨a0,a1,a2,a3,a4,a5,a7⟩:=aE HX7.out;obtain ⟨b0,b1,b2,b3,b4,b5⟩:=bi HX7.out;obtain ⟨c0,c1,c2,c3,c4,c5,c7⟩:=aE HR6.out;obtain ⟨d0,d1,d2,d3,d4,d5⟩:=bi HR6.out;simp only [Hd.zero] at a0 a1 a2 a3 a4 a5 c0 c1 c2 c3 c4 c5;go_wp2_with fail;have HF:=hid ((HL6.out.ch ((Ch.refl (fun j=>j=w1.heap.size) wc).setCell (p:=⟨w1.heap.size,3,none⟩) rfl (.int .i64 (hs+1))) (fun k e=>by subst e;first | exact .inl (.inl rfl) | exact .inl (.inl (.inl rfl)))).fin (cI HR6.out (a:=⟨w1.heap.size,3,none⟩) (by simp) (.int .i64 (hs+1))) (by first | exact .inl (.inr rfl) | exact .inl (.inl (.inr rfl))) ⟨hm,hp,n,hs+1,hr,hc⟩);obtain ⟨q0,q1,q2,q3,q4,q5,q6⟩:=aE HF.out.1;generalize hwf:iT (wc.setCell ⟨w1.heap.size,3,none⟩ (.int .i64 (hs+1))) (w1.heap.size+1) ⟨hm,hp,n,hs+1,hr,hc⟩=wf at *;have hwf2:((((((wc.setCell ⟨w1.heap.size,3,none⟩ (.int .i64 (hs+1))).setCell ⟨w1.heap.size+1,0,none⟩ (.int .i64 (hm))).setCell ⟨w1.heap.size+1,1,none⟩ (.int .i64 (hp))).setCell ⟨w1.heap.size+1,2,none⟩ (.int .i64 (n))).setCell ⟨w1.heap.size+1,3,none⟩ (.int .i64 (hs+1))).setCell ⟨w1.heap.size+1,4,none⟩ (.int .i64 (hr))).setCell ⟨w1.heap.size+1,5,none⟩ (.int .u64 (hc))=wf:=hwf;rw [hwf2];exact bodyPost_ret (v:=.tuple #[.agg #[.int .i64 (hm),.int .i64 (hp),.int .i64 (n),.int .i64 (hs+1),.int .i64 (hr),.int .u64 (hc)],.int .i64 (0)]) (by simp [results,Tryz.results90,go_sem,q0,q1,q2,q3,q4,q5]) rfl ⟨by rw [HT.out];rfl,(by rw [HT.out];first | exact HF.out.2.1.mono (by first | (unfold bv aM;simp <;> omega) | (unfold bv;simp <;> omega)) | exact (HF.out.2.1.mono (by first | (unfold bv aM;simp <;> omega) | (unfold bv;simp <;> omega))).drew | exact (HF.out.2.1.mono (by first | (unfold bv aM;simp <;> omega) | (unfold bv;simp <;> omega))).drew.drew),(by first | exact HF.out.2.2 | exact HF.out.2.2.drew | exact HF.out.2.2.drew.drew)⟩
end Go.Proofs.YtdmhbgpejppbkaaGreat
namespace Go.Proofs.YtdmhbgpejppbkaaGreat
open Go.RowKit
structure Wok (W:He):Prop where
 p1:1≤W.pages
 p2:W.pages≤4096
 t:W.trunk<W.pages
 s:W.spare≤4095
 st:W.spare≠0→1≤W.trunk
def Hd.of (W:He):Hd:=⟨W.mode,W.pages,W.trunk,W.spare,W.root,W.change⟩
theorem Wok.ok {W:He} (h:Wok W):(Hd.of W).Ok:=by have h1:=h.p1;have h2:=h.p2;have h3:=h.t;have h4:=h.s;exact ⟨by simp only [Hd.of];omega,by simp only [Hd.of];omega,by simp only [Hd.of];omega,by simp only [Hd.of];omega,by simp only [Hd.of];omega,by simp only [Hd.of];omega⟩
structure TakenP (W:He) (B:Int→By) (H:He) (n:Nat):Prop where
 h:(az (Hd.of W) B).h=Hd.of H
 num:(az (Hd.of W) B).n=(n:Int)
 ok:Wok H
 n1:1≤n
 N:n<W.pages∧H.pages=W.pages∨n=W.pages∧H.pages=W.pages+1
 root:H.root=W.root
theorem zt {W:He} (h:Wok W) (B:Int→By):((az (Hd.of W) B).e≠0∧(az (Hd.of W) B).B=B∧(az (Hd.of W) B).n=0∧(az (Hd.of W) B).h=Hd.zero)∨((az (Hd.of W) B).e=0∧∃ H n,TakenP W B H n):=by
 have k1:=h.p1;have k2:=h.p2;have k3:=h.t;have k4:=h.s;have k5:=h.st;obtain ⟨m,p,t,s,r,c⟩:=W;simp only [Hd.of] at *;by_cases h0:s=0
 ·subst h0;by_cases hp:4096≤p
  ·left;have e:az ⟨(m:Int),p,t,(0:Nat),r,c⟩ B=ao B 22:=by unfold az;rw [if_pos (show ((0:Nat):Int)=0 from rfl),if_pos (by simp only;omega)]
   rw [e];exact ⟨by simp [ao],rfl,rfl,rfl⟩
  ·right;have e:az ⟨(m:Int),p,t,(0:Nat),r,c⟩ B=⟨p,⟨m,(p:Int)+1,t,(0:Nat),r,c⟩,0,B⟩:=by unfold az;rw [if_pos (show ((0:Nat):Int)=0 from rfl),if_neg (by simp only;omega)]
   refine ⟨by rw [e],⟨m,p+1,t,0,r,c⟩,p,⟨by simp only [Hd.of];rw [e];simp,by simp only [Hd.of];rw [e],⟨by simp,by simp only;omega,by simp only;omega,by simp,fun x=>absurd rfl x⟩,k1,.inr ⟨rfl,rfl⟩,rfl⟩⟩
 ·have hs:¬ ((s:Int)=0):=by omega
  have ht:=k5 h0;cases hd:cT (B (t:Int))
  ·left;have e:az ⟨(m:Int),p,t,s,r,c⟩ B=ao B 30:=by unfold az;rw [if_neg hs,if_pos hd]
   rw [e];exact ⟨by simp [ao],rfl,rfl,rfl⟩
  ·have hbad:=jR hd;obtain ⟨b1,b2,b3,b4⟩:=py hbad;obtain ⟨⟨tn,tl⟩,hT⟩:∃ T,bt (B (t:Int))=T:=⟨_,rfl⟩;rw [hT] at b1 b2 b3 b4;simp only at b1 b2 b3 b4;have e:az ⟨(m:Int),p,t,s,r,c⟩ B=if de ⟨tn,tl⟩ p then ao B 30 else if 0<tl.length then ⟨tl.getD (tl.length - 1) 0,⟨m,p,t,(s:Int) - 1,r,c⟩,0,bW B t (aT (eG ⟨tn,tl.take (tl.length - 1)⟩))⟩ else if ((tn == 0) != ((s:Int) == 1)) then ao B 30 else ⟨t,⟨m,p,tn,(s:Int) - 1,r,c⟩,0,B⟩:=by unfold az;rw [if_neg hs,if_neg (by rw [hd];decide)];simp only [hT]
   by_cases ha:de ⟨tn,tl⟩ p=true
   ·left;rw [e,if_pos ha];exact ⟨by simp [ao],rfl,rfl,rfl⟩
   ·rw [if_neg ha] at e;have ha2:¬ (p:Int)≤tn∧¬ (0<tl.length∧(p:Int)≤tl.getD (tl.length - 1) 0):=by unfold de at ha;simp only [Bool.or_eq_true,Bool.and_eq_true,decide_eq_true_eq,not_or] at ha;exact ha
    by_cases hl:0<tl.length
    ·right;rw [if_pos hl] at e;have hlast:tl.getD (tl.length - 1) 0 ∈ tl:=by rw [List.getD_eq_getElem?_getD,List.getElem?_eq_getElem (by omega),Option.getD_some];exact List.getElem_mem _
     obtain ⟨x1,x2⟩:=b4 _ hlast;have x3:tl.getD (tl.length - 1) 0<(p:Int):=by have:=ha2.2;omega
     generalize tl.getD (tl.length - 1) 0=x at *;refine ⟨by rw [e],⟨m,p,t,s - 1,r,c⟩,x.toNat,⟨by simp only [Hd.of];rw [e];simp only [Hd.mk.injEq,true_and,and_true];omega,by simp only [Hd.of];rw [e];simp only;omega,⟨k1,k2,k3,by simp only;omega,fun _=>ht⟩,by omega,.inl ⟨by simp only;omega,rfl⟩,rfl⟩⟩
    ·rw [if_neg hl] at e;cases hx:((tn == 0) != ((s:Int) == 1))
     ·right;rw [if_neg (by rw [hx];decide)] at e;have h1:(tn=0)↔(s:Int)=1:=by
       have:(tn == 0)=((s:Int) == 1):=by simpa using hx
       constructor
       ·intro h;rw [h] at this;simpa using this.symm
       ·intro h;rw [h] at this;simpa using this
      refine ⟨by rw [e],⟨m,p,tn.toNat,s - 1,r,c⟩,t,⟨by simp only [Hd.of];rw [e];simp only [Hd.mk.injEq,true_and,and_true];omega,by simp only [Hd.of];rw [e],⟨k1,k2,by simp only;have:=ha2.1;omega,by simp only;omega,fun hh=>by simp only at hh ⊢;omega⟩,ht,.inl ⟨k3,rfl⟩,rfl⟩⟩
     ·left;rw [if_pos hx] at e;rw [e];exact ⟨by simp [ao],rfl,rfl,rfl⟩
structure GivenP (W:He) (B:Int→By) (n:Int) (H:He):Prop where
 h:(aP (Hd.of W) B n).h=Hd.of H
 ok:Wok H
 pages:H.pages=W.pages
 root:H.root=W.root
theorem zB {W:He} (h:Wok W) (B:Int→By) (n:Int):((aP (Hd.of W) B n).e≠0∧(aP (Hd.of W) B n).B=B∧(aP (Hd.of W) B n).h=Hd.zero)∨((aP (Hd.of W) B n).e=0∧∃ H,GivenP W B n H):=by
 have k1:=h.p1;have k2:=h.p2;have k3:=h.t;have k4:=h.s;have k5:=h.st;obtain ⟨m,p,t,s,r,c⟩:=W;simp only [Hd.of] at *;by_cases hn:n<1∨(p:Int)≤n
 ·left;have e:aP ⟨(m:Int),p,t,s,r,c⟩ B n=aM B 1:=by unfold aP;rw [if_pos hn]
  rw [e];exact ⟨by simp [aM],rfl,rfl⟩
 ·by_cases hs:(p:Int) - 1≤s
  ·left;have e:aP ⟨(m:Int),p,t,s,r,c⟩ B n=aM B 30:=by unfold aP;rw [if_neg hn,if_pos hs]
   rw [e];exact ⟨by simp [aM],rfl,rfl⟩
  ·by_cases ht:(t:Int)=0
   ·right;have e:aP ⟨(m:Int),p,t,s,r,c⟩ B n=⟨⟨m,p,n,(s:Int)+1,r,c⟩,0,bW B n (aT (eG ⟨0,[]⟩))⟩:=by unfold aP;rw [if_neg hn,if_neg hs,if_pos ht]
    refine ⟨by rw [e],⟨m,p,n.toNat,s+1,r,c⟩,⟨by simp only [Hd.of];rw [e];simp only [Hd.mk.injEq,true_and,and_true];omega,⟨k1,k2,by simp only;omega,by simp only;omega,fun _=>by simp only;omega⟩,rfl,rfl⟩⟩
   ·cases hd:cT (B (t:Int))
    ·left;have e:aP ⟨(m:Int),p,t,s,r,c⟩ B n=aM B 30:=by unfold aP;rw [if_neg hn,if_neg hs,if_neg ht,if_pos hd]
     rw [e];exact ⟨by simp [aM],rfl,rfl⟩
    ·right;by_cases h50:(bt (B (t:Int))).list.length<50
     ·have e:aP ⟨(m:Int),p,t,s,r,c⟩ B n=⟨⟨m,p,t,(s:Int)+1,r,c⟩,0,bW B t (aT (eG ⟨(bt (B (t:Int))).next,(bt (B (t:Int))).list ++ [n]⟩))⟩:=by unfold aP;rw [if_neg hn,if_neg hs,if_neg ht,if_neg (by rw [hd];decide),if_pos h50]
      refine ⟨by rw [e],⟨m,p,t,s+1,r,c⟩,⟨by simp only [Hd.of];rw [e];simp only [Hd.mk.injEq,true_and,and_true];omega,⟨k1,k2,k3,by simp only;omega,fun _=>by simp only;omega⟩,rfl,rfl⟩⟩
     ·have e:aP ⟨(m:Int),p,t,s,r,c⟩ B n=⟨⟨m,p,n,(s:Int)+1,r,c⟩,0,bW B n (aT (eG ⟨t,[]⟩))⟩:=by unfold aP;rw [if_neg hn,if_neg hs,if_neg ht,if_neg (by rw [hd];decide),if_neg h50]
      refine ⟨by rw [e],⟨m,p,n.toNat,s+1,r,c⟩,⟨by simp only [Hd.of];rw [e];simp only [Hd.mk.injEq,true_and,and_true];omega,⟨k1,k2,by simp only;omega,by simp only;omega,fun _=>by simp only;omega⟩,rfl,rfl⟩⟩
structure Ab where
 H:He
 C:Int→By
 busy:Bool
 wrote:Bool
 W:He
 B:Int→By
 S:List (He × (Int→By))
 gd:Nat × Int
def Ab.now (A:Ab):He:=if A.busy then A.W else A.H
def Ab.pgs (A:Ab):Int→By:=if A.busy then A.B else A.C
structure Calm (P:Pgr) (A:Ab):Prop where
 nt:P.notes=none
 cl:∀ x ∈ P.ca,x.2.2=false
 lg:∀ l,P.lg=some l→P.mark=(l.length:Nat)
 W:A.W=A.H
 B:∀ m:Nat,1≤m→m<A.H.pages→A.B m=A.C m
 S:∀ a ∈ A.S,a.1=A.H∧∀ m:Nat,1≤m→m<A.H.pages→a.2 m=A.C m
 im:∀ s ∈ P.saves,s.im=[]
structure Rz (P:Pgr) (A:Ab) (t:Nat):Prop where
 head:P.head=A.H
 busy:P.busy=A.busy
 wrote:A.busy=true→P.wrote=A.wrote
 work:A.busy=true→P.work=A.W
 hok:A.H.Good
 wok:A.busy=true→Wok A.W
 bse:P.base=A.H.pages∨(P.base=0∧A.H.pages=1)
 hp:A.H.pages≤t+1
 wp:A.busy=true→A.W.pages≤t+1
 hc:A.H.change≤t
 wc:A.busy=true→A.W.change=A.H.change∧A.W.mode=A.H.mode
 md:(A.H.mode=1∧P.lg=none)∨(A.H.mode=2∧P.lg.isSome=true)
 lgn:aN P.lg≤180 * t
 idle:A.busy=false→A.S=[]∧P.saves=[]∧P.notes=none
 svk:∀ a ∈ A.S,Wok a.1∧a.1.pages≤t+1∧a.1.mode=A.H.mode∧a.1.change=A.H.change
 pg:∃ N B,Uz P A.C N B∧SvZ P.saves A.S B N∧A.now.pages≤N∧N≤t+1∧∀ m:Nat,1≤m→m<A.now.pages→B m=A.pgs m
 t:t≤75
 cm:A.busy=true→A.wrote=false→Calm P A
 gd:(P.gd,P.life)=A.gd
def RTo (w:World) (L:PgL) (A:Ab) (t:Nat) (w':World):Prop:=∃ P',Rz P' A t∧PTo w L P' w'
section
variable {w w1 w':World} {L:PgL} {A:Ab} {t:Nat} {P Q:Pgr}
theorem RTo.pre (h:RTo w1 L A t w') (hb:Below w.heap.size w w1):RTo w L A t w':=let ⟨P,h1,h2⟩:=h;⟨P,h1,h2.pre hb⟩
theorem RTo.post (h:RTo w L A t w1) (hb:Below w1.heap.size w1 w'):RTo w L A t w':=let ⟨P,h1,h2⟩:=h;⟨P,h1,h2.post hb⟩
theorem Rz.up (h:Rz P A t):P.Up:=let ⟨_,_,h,_⟩:=h.pg;h.up
theorem Rz.now (h:Rz P A t):P.now=A.now:=by
 unfold Pgr.now Ab.now;rw [h.busy];cases hb:A.busy
 ·exact h.head
 ·exact h.work hb
theorem Rz.later (h:Rz P A t) {t':Nat} (ht:t≤t') (h75:t'≤75):Rz P A t':=by have h1:=h.hp;have h3:=h.hc;have h4:=h.lgn;obtain ⟨N,B,u,sv,a,b,c⟩:=h.pg;exact ⟨h.head,h.busy,h.wrote,h.work,h.hok,h.wok,h.bse,by omega,fun hb=>by have:=h.wp hb;omega,by omega,h.wc,h.md,by omega,h.idle,fun a ha=>by obtain ⟨x,y,z⟩:=h.svk a ha;exact ⟨x,by omega,z⟩,⟨N,B,u,sv,a,by omega,c⟩,h75,h.cm,h.gd⟩
theorem qA {H:He} (h:H.Good):Wok H:=by
 have h1:=h.pages;have h2:=h.trunk;have h3:=h.spare;have h4:=h.both
 exact ⟨by omega,h1,h2,by omega,fun hs=>by
  rcases Nat.eq_zero_or_pos H.trunk with e | e
  ·exact (hs (h4.2 e)).elim
  ·exact e⟩
theorem Rz.calm (h:Rz P A t) (hs:P.SameX Q) (hl:aN Q.lg≤aN P.lg+180) (ht:t≤74) (hn:A.busy=false→Q.saves=[]∧Q.notes=none) (hcm:A.busy=true→A.wrote=false→Calm P A→Calm Q A) {N:Nat} {B:Int→By} (u:Uz Q A.C N B) (sv:SvZ Q.saves A.S B N) (hN:A.now.pages≤N) (hNt:N≤t+1) (hB:∀ m:Nat,1≤m→m<A.now.pages→B m=A.pgs m):Rz Q A (t+1):=by
 have h0:=h.later (t':=t+1) (by omega) (by omega);have h4:=h.lgn;refine ⟨by rw [hs.1];exact h0.head,by rw [hs.1];exact h0.busy,by rw [hs.1];exact h0.wrote,by rw [hs.1];exact h0.work,h0.hok,h0.wok,by rw [hs.1];exact h0.bse,h0.hp,h0.wp,h0.hc,h0.wc,?_,by omega,fun hb=>⟨(h0.idle hb).1,hn hb⟩,h0.svk,⟨N,B,u,sv,hN,by omega,hB⟩,h0.t,fun x y=>hcm x y (h.cm x y),by rw [hs.1];exact h.gd⟩;rcases h0.md with ⟨a,b⟩ | ⟨a,b⟩
 ·refine .inl ⟨a,?_⟩;have:=hs.2.2;rw [b] at this;simpa using this
 ·exact .inr ⟨a,by rw [hs.2.2];exact b⟩
theorem sE {C:Int→By} {N:Nat} {B:Int→By} (h:Uz P C N B) (hb:P.busy=false) (n:Nat) (s:By):(P.fetch n s).notes=P.notes:=by
 unfold Pgr.fetch
 split
 ·rfl
 ·have hg:P.gone n s false=[]:=by
   unfold Pgr.gone fZ;simp only;rw [List.map_eq_nil_iff,List.filter_eq_nil_iff];intro x hx hd;have hx2:=List.mem_of_mem_take hx;rcases List.mem_append.1 hx2 with hx2 | hx2
   ·have:=(h.y.calm hb).1 x (vmem_without.1 hx2).1;rw [this] at hd;cases hd
   ·rw [List.mem_singleton.1 hx2] at hd;cases hd
  unfold Pgr.hold;rw [hg];rfl
theorem Uz.setWork {C:Int→By} {N:Nat} {B:Int→By} (h:Uz P C N B) (W:He) (wr:Bool):Uz { P with work:=W,wrote:=wr } C N B:=by
 refine ⟨⟨h.up.over,h.up.lost,h.up.down,h.up.life⟩,h.s1,h.s2,⟨h.y.d,h.y.core,?_,h.y.sp,h.y.base,h.y.ch,h.y.lenB,h.y.lenC,h.y.calm⟩,h.fit,h.N⟩;rcases h.y.md with ⟨its,hm⟩ | ⟨l,its,mk,hm⟩
 ·exact .inl ⟨its,hm.lg,hm.nl,hm.jz,hm.mar,hm.main,hm.ca,hm.lost,hm.ml,hm.img,hm.mf⟩
 ·exact .inr ⟨l,its,mk,hm.lg,hm.nt,hm.mar,hm.lz,hm.mark,hm.idle⟩
structure Keep (P Q:Pgr):Prop where
 size:Q.size=P.size
 head:Q.head=P.head
 base:Q.base=P.base
 life:Q.life=P.life
 over:Q.over=P.over
 lost:Q.lost=P.lost
 busy:Q.busy=P.busy
 mark:Q.mark=P.mark
 spoilt:Q.spoilt=P.spoilt
 gd:Q.gd=P.gd
 lg:Q.lg.isSome=P.lg.isSome
theorem Pgr.SameX.keep (h:P.SameX Q):Keep P Q:=by obtain ⟨h,h2,h3⟩:=h;refine ⟨?_,?_,?_,?_,?_,?_,?_,?_,?_,?_,h3⟩ <;> rw [h]
theorem Keep.trans {R:Pgr} (h:Keep P Q) (k:Keep Q R):Keep P R:=
 ⟨k.size.trans h.size,k.head.trans h.head,k.base.trans h.base,k.life.trans h.life,k.over.trans h.over,k.lost.trans h.lost,k.busy.trans h.busy,k.mark.trans h.mark,k.spoilt.trans h.spoilt,k.gd.trans h.gd,k.lg.trans h.lg⟩
theorem Keep.setWork (W:He) (wr:Bool):Keep P { P with work:=W,wrote:=wr }:=⟨rfl,rfl,rfl,rfl,rfl,rfl,rfl,rfl,rfl,rfl,rfl⟩
theorem Rz.next (h:Rz P A t) (hb:A.busy=true) (hs:Keep P Q) (hl:aN Q.lg≤aN P.lg+180) (ht:t≤74) {W':He} {wr:Bool} {B':Int→By} (hqw:Q.work=W') (hqr:Q.wrote=wr) (hw:Wok W') (hwp:W'.pages≤t+2) (hmc:W'.change=A.W.change∧W'.mode=A.W.mode)
  {S':List (He × (Int→By))} (hcm:wr=false→Calm Q { A with W:=W',B:=B',wrote:=wr,S:=S' }) (hS:∀ a ∈ S',Wok a.1∧a.1.pages≤t+2∧a.1.mode=A.H.mode∧a.1.change=A.H.change)
  {N:Nat} {B:Int→By} (u:Uz Q A.C N B) (sv:SvZ Q.saves S' B N) (hN:W'.pages≤N) (hNt:N≤t+2) (hB:∀ m:Nat,1≤m→m<W'.pages→B m=B' m):Rz Q { A with W:=W',B:=B',wrote:=wr,S:=S' } (t+1):=by
 have h0:=h.later (t':=t+1) (by omega) (by omega);have h4:=h.lgn;have hwc:=h.wc hb;refine ⟨hs.head.trans h0.head,hs.busy.trans h0.busy,fun _=>hqr,fun _=>hqw,h0.hok,fun _=>hw,by rw [hs.base];exact h0.bse,h0.hp,fun _=>hwp,h0.hc,fun _=>⟨hmc.1.trans hwc.1,hmc.2.trans hwc.2⟩,?_,by omega,fun hx=>absurd (hb.symm.trans hx) (by decide),hS,⟨N,B,u,sv,?_,by omega,?_⟩,h0.t,fun _ hx=>hcm hx,by rw [hs.gd,hs.life];exact h.gd⟩
 ·rcases h0.md with ⟨a,b⟩ | ⟨a,b⟩
  ·refine .inl ⟨a,?_⟩;have:=hs.lg;rw [b] at this;simpa using this
  ·exact .inr ⟨a,by rw [hs.lg];exact b⟩
 ·unfold Ab.now;simp only [hb,if_true];exact hN
 ·unfold Ab.now Ab.pgs;simp only [hb,if_true];exact hB
theorem Rz.svk2 (h:Rz P A t):∀ a ∈ A.S,Wok a.1∧a.1.pages≤t+2∧a.1.mode=A.H.mode∧a.1.change=A.H.change:=fun a ha=>by
 obtain ⟨x,y,z⟩:=h.svk a ha;exact ⟨x,by omega,z⟩
end
theorem SvZ.more {sv:List Sv} {S:List (He × (Int→By))} {B:Int→By} {N N':Nat} (h:SvZ sv S B N) (hN:N≤N'):SvZ sv S B N':=⟨h.len,h.at_,h.im,fun s hs=>Nat.le_trans (h.pg s hs) hN,h.n16⟩
theorem pA (h:Hd) (B:Int→By):(az h B).e=0→(az h B).h.change=h.change∧(az h B).h.mode=h.mode:=by
 unfold az;simp only
 repeat' split
 all_goals first
  | (intro _;exact ⟨rfl,rfl⟩)
  | (intro he;simp [ao] at he)
theorem qB (h:Hd) (B:Int→By) (n:Int):(aP h B n).e=0→(aP h B n).h.change=h.change∧(aP h B n).h.mode=h.mode:=by
 unfold aP
 repeat' split
 all_goals first
  | (intro _;exact ⟨rfl,rfl⟩)
  | (intro he;simp [aM] at he)
theorem pB {h:Hd} {B B':Int→By} (he:h.spare≠0→B h.trunk=B' h.trunk):(az h B).n=(az h B').n∧(az h B).h=(az h B').h∧(az h B).e=(az h B').e∧∀ m,B m=B' m→(az h B).B m=(az h B').B m:=by
 by_cases hs:h.spare=0
 ·unfold az;rw [if_pos hs,if_pos hs]
  split <;> exact ⟨rfl,rfl,rfl,fun m hm=>hm⟩
 ·unfold az;rw [if_neg hs,if_neg hs,he hs];simp only
  split
  ·exact ⟨rfl,rfl,rfl,fun m hm=>hm⟩
  ·split
   ·exact ⟨rfl,rfl,rfl,fun m hm=>hm⟩
   ·split
    ·refine ⟨rfl,rfl,rfl,fun m hm=>?_⟩;simp only [bW]
     split
     ·rfl
     ·exact hm
    ·split <;> exact ⟨rfl,rfl,rfl,fun m hm=>hm⟩
theorem qC {h:Hd} {B B':Int→By} {n:Int} (he:h.trunk≠0→B h.trunk=B' h.trunk):(aP h B n).h=(aP h B' n).h∧(aP h B n).e=(aP h B' n).e∧∀ m,B m=B' m→(aP h B n).B m=(aP h B' n).B m:=by
 unfold aP
 split
 ·exact ⟨rfl,rfl,fun m hm=>hm⟩
 ·split
  ·exact ⟨rfl,rfl,fun m hm=>hm⟩
  ·split
   ·refine ⟨rfl,rfl,fun m hm=>?_⟩;simp only [bW]
    split
    ·rfl
    ·exact hm
   ·rename_i ht
    rw [he ht]
    split
    ·exact ⟨rfl,rfl,fun m hm=>hm⟩
    ·split
     ·refine ⟨rfl,rfl,fun m hm=>?_⟩;simp only [bW]
      split
      ·rfl
      ·exact hm
     ·refine ⟨rfl,rfl,fun m hm=>?_⟩;simp only [bW]
      split
      ·rfl
      ·exact hm
end Go.Proofs.YtdmhbgpejppbkaaGreat
