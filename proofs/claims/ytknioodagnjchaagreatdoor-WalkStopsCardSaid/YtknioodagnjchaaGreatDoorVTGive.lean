/- spare.Give over a shelf's book. -/
import Derived.Test.YtknioodagnjchaaGreatDoorVSp
import Derived.Deep.RegionWith
set_option maxRecDepth 100000
set_option maxHeartbeats 2000000
namespace Go.Proofs.YtknioodagnjchaaGreatDoor
open Go.RowKit Go.Maps
theorem mk_ints (w:World) (n:Nat) (h:n≤1000000):(Instr.makeSlice 37 (.int .i64 n) (.int .i64 n)).run Tryz.prog w=.ok (.slice (some ⟨w.heap.size,0,none⟩) n n) (w.alloc (.cells ((List.replicate n (0:Int)).flatMap iC).toArray 3)):=by
 obtain ⟨i,hi,hz,hsz,hby⟩:∃ i,Tryz.prog.info? 3=some i∧i.zero=some (.int .i64 0)∧i.size=1∧i.bytes=8:=by
  have h:=(show (Tryz.prog.info? 3).map (fun i=>(i.zero,i.size,i.bytes))=some (some (.int .i64 0),1,8) by kernel_rfl)
  cases hi:Tryz.prog.info? 3 with
  | none=>rw [hi] at h;cases h
  | some i=>
    rw [hi] at h
    simp only [Option.map_some,Option.some.injEq,Prod.mk.injEq] at h
    exact ⟨i,rfl,h.1,h.2.1,h.2.2⟩
 have e:madeCells (Value.cells (.int .i64 0)) n=((List.replicate n (0:Int)).flatMap iC).toArray:=by
  rw [← Array.toList_inj,show Value.cells (.int .i64 0)=#[.int .i64 0] from rfl,toList_madeCells_one]
  clear h
  induction n with
  | zero=>rfl
  | succ n ih=>
    rw [List.replicate_succ,List.replicate_succ,List.flatMap_cons,ih]
    rfl
 rw [run_make w 37 3 i _ Tryz.underlying37 hi hz .i64 .i64 n n (by omega) (Int.le_refl _) (by rw [hby];omega) (by omega),hsz,Nat.mul_one,Int.toNat_natCast,e]
theorem give_any (h:Hd) (n:Int) (gm:Nat) (B:Int→List UInt8) (w:World) (hb:BookIs w gm B) (hl:∀ n,(B n).length=232) (hk:h.Ok):
  Calls Tryz.prog 93 #[.agg #[.int .i64 h.mode,.int .i64 h.pages,.int .i64 h.trunk,.int .i64 h.spare,.int .i64 h.root,.int .u64 h.change],.iface 91 (.map (some gm)),.int .i64 n] w
   fun e w'=>e=.returned (.tuple #[(giveR h B n).h.val,.int .i64 (giveR h B n).e])∧BookIs w' gm (giveR h B n).B∧Ch (fun k=>k=gm) w w':=by
 have HH:=Lib.hid hb
 have hgm:=hb.lt
 clear hb
 obtain ⟨hm,hp,ht,hs,hr,hc⟩:=h
 obtain ⟨k1,k2,k3,k4,k5,k6⟩:=hk
 simp only at k1 k2 k3 k4 k5 k6
 go_enter Tryz.func93,Tryz.ntmps93
 go_upto_region 1 with fail
 have HX1:=Lib.hid (blk_alloc (blk_new (w0:=w) (g:=w.heap.size) (o:=hdB ⟨hm,hp,ht,hs,hr,hc⟩) rfl) (hdB Hd.zero))
 have HR1:=Lib.hid (blk_new (w0:=w.alloc (hdB ⟨hm,hp,ht,hs,hr,hc⟩)) (g:=w.heap.size+1) (o:=hdB Hd.zero) (by simp))
 have HW1:=Lib.hid (((Below.refl _ w).alloc (Nat.le_refl _) (hdB ⟨hm,hp,ht,hs,hr,hc⟩)).alloc (by simp) (hdB Hd.zero))
 have HH1:=Lib.hid (HH.out.ch (Ch.of_below (S:=fun _=>False) HW1.out) id)
 generalize hw1:(w.alloc (.cells #[.int .i64 hm,.int .i64 hp,.int .i64 ht,.int .i64 hs,.int .i64 hr,.int .u64 hc] 51)).alloc (.cells #[.int .i64 0,.int .i64 0,.int .i64 0,.int .i64 0,.int .i64 0,.int .u64 0] 51)=w1 at *
 have hw2:(w.alloc (hdB ⟨hm,hp,ht,hs,hr,hc⟩)).alloc (hdB Hd.zero)=w1:=hw1
 rw [hw2] at HX1 HR1 HW1 HH1
 clear hw1 hw2
 obtain ⟨a0,a1,a2,a3,a4,a5,a6⟩:=hd_cells HX1.out
 obtain ⟨b0,b1,b2,b3,b4,b5⟩:=hd_frozen HX1.out
 obtain ⟨c0,c1,c2,c3,c4,c5,c6⟩:=hd_cells HR1.out
 obtain ⟨d0,d1,d2,d3,d4,d5⟩:=hd_frozen HR1.out
 simp only [Hd.zero] at a0 a1 a2 a3 a4 a5 c0 c1 c2 c3 c4 c5
 by_cases hn:n<1∨hp≤n
 ·have HT:=Lib.hid (show giveR ⟨hm,hp,ht,hs,hr,hc⟩ B n=giveBad B 1 by unfold giveR;rw [if_pos hn])
  rcases hn with hn | hn
  ·go_wp2_with fail
   have HF:=Lib.hid (take_fin HW1.out HH1.out HR1.out (Nat.le_succ _) (by omega) ⟨0,0,0,0,0,0⟩)
   obtain ⟨q0,q1,q2,q3,q4,q5,q6⟩:=hd_cells HF.out.1
   generalize hwf:hdS (w1) (w.heap.size+1) ⟨0,0,0,0,0,0⟩=wf at *
   have hwf2:((((((w1).setCell ⟨w.heap.size+1,0,none⟩ (.int .i64 (0))).setCell ⟨w.heap.size+1,1,none⟩ (.int .i64 (0))).setCell ⟨w.heap.size+1,2,none⟩ (.int .i64 (0))).setCell ⟨w.heap.size+1,3,none⟩ (.int .i64 (0))).setCell ⟨w.heap.size+1,4,none⟩ (.int .i64 (0))).setCell ⟨w.heap.size+1,5,none⟩ (.int .u64 (0))=wf:=hwf
   rw [hwf2]
   exact bodyPost_ret (v:=.tuple #[.agg #[.int .i64 (0),.int .i64 (0),.int .i64 (0),.int .i64 (0),.int .i64 (0),.int .u64 (0)],.int .i64 (1)]) (by simp [results,Tryz.results93,go_sem,q0,q1,q2,q3,q4,q5]) rfl ⟨by rw [HT.out];rfl,by rw [HT.out];exact HF.out.2.1.block rfl,⟨HF.out.2.2.os,HF.out.2.2.tape,HF.out.2.2.output,HF.out.2.2.size,HF.out.2.2.block⟩⟩
  ·have hn2:(1:Int)≤n:=by omega
   go_wp2_with fail
   have HF:=Lib.hid (take_fin HW1.out HH1.out HR1.out (Nat.le_succ _) (by omega) ⟨0,0,0,0,0,0⟩)
   obtain ⟨q0,q1,q2,q3,q4,q5,q6⟩:=hd_cells HF.out.1
   generalize hwf:hdS (w1) (w.heap.size+1) ⟨0,0,0,0,0,0⟩=wf at *
   have hwf2:((((((w1).setCell ⟨w.heap.size+1,0,none⟩ (.int .i64 (0))).setCell ⟨w.heap.size+1,1,none⟩ (.int .i64 (0))).setCell ⟨w.heap.size+1,2,none⟩ (.int .i64 (0))).setCell ⟨w.heap.size+1,3,none⟩ (.int .i64 (0))).setCell ⟨w.heap.size+1,4,none⟩ (.int .i64 (0))).setCell ⟨w.heap.size+1,5,none⟩ (.int .u64 (0))=wf:=hwf
   rw [hwf2]
   exact bodyPost_ret (v:=.tuple #[.agg #[.int .i64 (0),.int .i64 (0),.int .i64 (0),.int .i64 (0),.int .i64 (0),.int .u64 (0)],.int .i64 (1)]) (by simp [results,Tryz.results93,go_sem,q0,q1,q2,q3,q4,q5]) rfl ⟨by rw [HT.out];rfl,by rw [HT.out];exact HF.out.2.1.block rfl,⟨HF.out.2.2.os,HF.out.2.2.tape,HF.out.2.2.output,HF.out.2.2.size,HF.out.2.2.block⟩⟩
 ·have hn1:(1:Int)≤n:=by omega
  have hn2:n<hp:=by omega
  by_cases hsp:hp - 1≤hs
  ·have HT:=Lib.hid (show giveR ⟨hm,hp,ht,hs,hr,hc⟩ B n=giveBad B 30 by unfold giveR;rw [if_neg hn,if_pos hsp])
   go_wp2_with fail
   have HF:=Lib.hid (take_fin HW1.out HH1.out HR1.out (Nat.le_succ _) (by omega) ⟨0,0,0,0,0,0⟩)
   obtain ⟨q0,q1,q2,q3,q4,q5,q6⟩:=hd_cells HF.out.1
   generalize hwf:hdS (w1) (w.heap.size+1) ⟨0,0,0,0,0,0⟩=wf at *
   have hwf2:((((((w1).setCell ⟨w.heap.size+1,0,none⟩ (.int .i64 (0))).setCell ⟨w.heap.size+1,1,none⟩ (.int .i64 (0))).setCell ⟨w.heap.size+1,2,none⟩ (.int .i64 (0))).setCell ⟨w.heap.size+1,3,none⟩ (.int .i64 (0))).setCell ⟨w.heap.size+1,4,none⟩ (.int .i64 (0))).setCell ⟨w.heap.size+1,5,none⟩ (.int .u64 (0))=wf:=hwf
   rw [hwf2]
   exact bodyPost_ret (v:=.tuple #[.agg #[.int .i64 (0),.int .i64 (0),.int .i64 (0),.int .i64 (0),.int .i64 (0),.int .u64 (0)],.int .i64 (30)]) (by simp [results,Tryz.results93,go_sem,q0,q1,q2,q3,q4,q5]) rfl ⟨by rw [HT.out];rfl,by rw [HT.out];exact HF.out.2.1.block rfl,⟨HF.out.2.2.os,HF.out.2.2.tape,HF.out.2.2.output,HF.out.2.2.size,HF.out.2.2.block⟩⟩
  ·have hsp2:hs<hp - 1:=by omega
   have hmk:=mk_ints w1 50 (by omega)
   have HW2:=Lib.hid (HW1.out.alloc HW1.out.size (.cells ((List.replicate 50 (0:Int)).flatMap iC).toArray 3))
   have HX2:=Lib.hid (blk_alloc HX1.out (.cells ((List.replicate 50 (0:Int)).flatMap iC).toArray 3))
   have HR2:=Lib.hid (blk_alloc HR1.out (.cells ((List.replicate 50 (0:Int)).flatMap iC).toArray 3))
   have HH2:=Lib.hid (HH1.out.ch (Ch.alloc (Ch.refl (fun _=>False) w1) (.cells ((List.replicate 50 (0:Int)).flatMap iC).toArray 3)) id)
   have hs2:w.heap.size+2<(w1.alloc (.cells ((List.replicate 50 (0:Int)).flatMap iC).toArray 3)).heap.size:=by simp;omega
   generalize w1.alloc (.cells ((List.replicate 50 (0:Int)).flatMap iC).toArray 3)=w2 at *
   generalize w1.heap.size=g1 at *
   have hmk2:(Instr.makeSlice 37 (.int .i64 50) (.int .i64 50)).run Tryz.prog w1=.ok (.slice (some ⟨g1,0,none⟩) 50 50) w2:=hmk
   clear hmk
   have HX3:=Lib.hid (blk_alloc HX2.out (.cells #[.int .i64 0,.slice (some ⟨g1,0,none⟩) 50 50] 167))
   have HR3:=Lib.hid (blk_alloc HR2.out (.cells #[.int .i64 0,.slice (some ⟨g1,0,none⟩) 50 50] 167))
   have HW3:=Lib.hid (HW2.out.alloc HW2.out.size (.cells #[.int .i64 0,.slice (some ⟨g1,0,none⟩) 50 50] 167))
   have HH3:=Lib.hid (HH2.out.ch (Ch.alloc (Ch.refl (fun _=>False) w2) (.cells #[.int .i64 0,.slice (some ⟨g1,0,none⟩) 50 50] 167)) id)
   have HG3:=Lib.hid (blk_new (w0:=w2) (g:=w2.heap.size) (o:=.cells #[.int .i64 0,.slice (some ⟨g1,0,none⟩) 50 50] 167) rfl)
   have hn3:n≠0:=by omega
   go_upto_region 7 with fail
   generalize w2.alloc (.cells #[.int .i64 0,.slice (some ⟨g1,0,none⟩) 50 50] 167)=w3 at *
   generalize w2.heap.size=g2 at *
   clear a0 a1 a2 a3 a4 a5 b0 b1 b2 b3 b4 b5 c0 c1 c2 c3 c4 c5 d0 d1 d2 d3 d4 d5 hmk2
   obtain ⟨a0,a1,a2,a3,a4,a5,a7⟩:=hd_cells HX3.out
   obtain ⟨b0,b1,b2,b3,b4,b5⟩:=hd_frozen HX3.out
   obtain ⟨c0,c1,c2,c3,c4,c5,c7⟩:=hd_cells HR3.out
   obtain ⟨d0,d1,d2,d3,d4,d5⟩:=hd_frozen HR3.out
   obtain ⟨t0,t1,t2,t3,t4⟩:=tk_all HG3.out
   simp only [Hd.zero] at a0 a1 a2 a3 a4 a5 c0 c1 c2 c3 c4 c5
   by_cases ht0:ht=0
   ·subst ht0
    have HT:=Lib.hid (show giveR ⟨hm,hp,0,hs,hr,hc⟩ B n=⟨⟨hm,hp,n,hs+1,hr,hc⟩,0,updB B n (fullL (tkB ⟨0,[]⟩))⟩ by unfold giveR;rw [if_neg hn,if_neg hsp,if_pos rfl])
    have HLB:=Lib.hid (show layB ⟨0,[]⟩ B n=updB B n (fullL (tkB ⟨0,[]⟩))∧layE ⟨0,[]⟩=0 from ⟨rfl,rfl⟩)
    go_wp2_with fail
    refine (lay_any n ⟨0,[]⟩ _ gm B w3 HH3.out (by omega) (by omega) Sl.nil (by simp)).mono ?_
    rintro e wl ⟨rfl,hbk,hch⟩
    have HXL:=HX3
    have HRL:=HR3
    have HWL:=HW3
    have HM5:=Lib.hid (show BookIs wl gm (updB B n (fullL (tkB ⟨0,[]⟩)))∧wl.heap[w.heap.size]?=some (hdB ⟨hm,hp,0,hs,hr,hc⟩)∧wl.heap[w.heap.size+1]?=some (hdB Hd.zero)∧Ch (fun k=>k=gm) w wl from
     ⟨by rw [← HLB.out.1];exact hbk,hch.keep HXL.out (by omega),hch.keep HRL.out (by omega),(Ch.of_below (S:=fun k=>k=gm) HWL.out).trans hch⟩)
    rw [HLB.out.2]
    clear hbk hch a0 a1 a2 a3 a4 a5 b0 b1 b2 b3 b4 b5 c0 c1 c2 c3 c4 c5 d0 d1 d2 d3 d4 d5 t0 t1 t2 t3 t4
    have hlt5:=blk_lt HM5.out.2.1
    have hfz5:=blk_frozen HM5.out.2.1
    have b2:=hfz5 2
    have a2:=(hd_cells HM5.out.2.1).2.2.1
    simp only at a2
    clear hfz5
    have HX6:=Lib.hid (blk_set HM5.out.2.1 2 (.int .i64 n))
    have HR6:=Lib.hid (blk_far HM5.out.2.2.1 (a:=⟨w.heap.size,2,none⟩) (by simp) (.int .i64 n))
    have HC6:=Lib.hid (HM5.out.2.2.2.then ((Ch.refl (fun j=>j=w.heap.size) wl).setCell (p:=⟨w.heap.size,2,none⟩) rfl (.int .i64 n)) (fun i e=>.inr (by omega)))
    have HBK:=Lib.hid (HM5.out.1.ch ((Ch.refl (fun j=>j=w.heap.size) wl).setCell (p:=⟨w.heap.size,2,none⟩) rfl (.int .i64 n)) (by omega))
    go_upto_region 16 with fail
    generalize wl.setCell ⟨w.heap.size,2,none⟩ (.int .i64 n)=wc at *
    clear a2 b2
    have HX7:=Lib.hid (show wc.heap[w.heap.size]?=some (hdB ⟨hm,hp,n,hs,hr,hc⟩) from HX6.out)
    clear HX6
    obtain ⟨a0,a1,a2,a3,a4,a5,a7⟩:=hd_cells HX7.out
    obtain ⟨b0,b1,b2,b3,b4,b5⟩:=hd_frozen HX7.out
    obtain ⟨c0,c1,c2,c3,c4,c5,c7⟩:=hd_cells HR6.out
    obtain ⟨d0,d1,d2,d3,d4,d5⟩:=hd_frozen HR6.out
    simp only [Hd.zero] at a0 a1 a2 a3 a4 a5 c0 c1 c2 c3 c4 c5
    go_wp2_with fail
    have HF:=Lib.hid (take_fin2 (HC6.out.then ((Ch.refl (fun j=>j=w.heap.size) wc).setCell (p:=⟨w.heap.size,3,none⟩) rfl (.int .i64 (hs+1))) (fun i e=>.inr (by omega))) (HBK.out.ch ((Ch.refl (fun j=>j=w.heap.size) wc).setCell (p:=⟨w.heap.size,3,none⟩) rfl (.int .i64 (hs+1))) (by omega)) (blk_far HR6.out (a:=⟨w.heap.size,3,none⟩) (by simp) (.int .i64 (hs+1))) (Nat.le_succ _) (by omega) ⟨hm,hp,n,hs+1,hr,hc⟩)
    obtain ⟨q0,q1,q2,q3,q4,q5,q6⟩:=hd_cells HF.out.1
    generalize hwf:hdS (wc.setCell ⟨w.heap.size,3,none⟩ (.int .i64 (hs+1))) (w.heap.size+1) ⟨hm,hp,n,hs+1,hr,hc⟩=wf at *
    have hwf2:((((((wc.setCell ⟨w.heap.size,3,none⟩ (.int .i64 (hs+1))).setCell ⟨w.heap.size+1,0,none⟩ (.int .i64 (hm))).setCell ⟨w.heap.size+1,1,none⟩ (.int .i64 (hp))).setCell ⟨w.heap.size+1,2,none⟩ (.int .i64 (n))).setCell ⟨w.heap.size+1,3,none⟩ (.int .i64 (hs+1))).setCell ⟨w.heap.size+1,4,none⟩ (.int .i64 (hr))).setCell ⟨w.heap.size+1,5,none⟩ (.int .u64 (hc))=wf:=hwf
    rw [hwf2]
    exact bodyPost_ret (v:=.tuple #[.agg #[.int .i64 (hm),.int .i64 (hp),.int .i64 (n),.int .i64 (hs+1),.int .i64 (hr),.int .u64 (hc)],.int .i64 (0)]) (by simp [results,Tryz.results93,go_sem,q0,q1,q2,q3,q4,q5]) rfl ⟨by rw [HT.out];rfl,by rw [HT.out];exact HF.out.2.1.block rfl,⟨HF.out.2.2.os,HF.out.2.2.tape,HF.out.2.2.output,HF.out.2.2.size,HF.out.2.2.block⟩⟩
   ·have hz0:(ht == 0)=false:=by simpa using ht0
    have hg2:g2<w3.heap.size:=blk_lt HG3.out
    go_wp2_with fail
    refine (trunk_any ht gm B w3 HH3.out (wf_page k3 k4) (hl ht)).mono ?_
    obtain ⟨⟨tn,tl⟩,hT⟩:∃ T,decV (B ht)=T:=⟨_,rfl⟩
    obtain ⟨te,hte⟩:∃ te,truE (B ht)=te:=⟨_,rfl⟩
    rw [hT,hte]
    have HTT:=Lib.hid hT
    have HTE:=Lib.hid hte
    clear hT hte
    rintro e w4 ⟨v,rfl,⟨lv,rfl,ho⟩,hb⟩
    simp only at ho
    obtain ⟨A,c,rfl⟩:=Sl.len' (ho.sl iC_len)
    have HX4:=Lib.hid (blk_keep HX3.out hb)
    have HR4:=Lib.hid (blk_keep HR3.out hb)
    have HG4:=Lib.hid (blk_keep HG3.out hb)
    have HW4:=Lib.hid (HW3.out.trans (hb.mono HW3.out.size))
    have HH4:=Lib.hid (HH3.out.ch (Ch.of_below (S:=fun _=>False) hb) id)
    have hg4:g2<w4.heap.size:=blk_lt HG4.out
    have hne2:w.heap.size≠g2:=by omega
    have hne3:w.heap.size+1≠g2:=by omega
    obtain ⟨t0,t1,t2,t3,t4⟩:=tk_all HG4.out
    have hc5:Ch (fun j=>j=g2) w4 ((w4.setCell ⟨g2,0,none⟩ (.int .i64 tn)).setCell ⟨g2,1,none⟩ (.slice A tl.length c)):=((Ch.refl (fun j=>j=g2) w4).setCell (p:=⟨g2,0,none⟩) rfl _).setCell (p:=⟨g2,1,none⟩) rfl _
    have HO5:=Lib.hid (ho.ch hc5 (fun j hj e=>by have:=(ho.lt j hj).1;omega))
    have HX5:=Lib.hid (hc5.keep HX4.out hne2)
    have HR5:=Lib.hid (hc5.keep HR4.out hne3)
    have HG5:=Lib.hid (show ((w4.setCell ⟨g2,0,none⟩ (.int .i64 tn)).setCell ⟨g2,1,none⟩ (.slice A tl.length c)).heap[g2]?=some (.cells #[.int .i64 tn,.slice A tl.length c] 167 (0,0)) from blk_set (blk_set HG4.out 0 (.int .i64 tn)) 1 (.slice A tl.length c))
    have HW5:=Lib.hid ((HW4.out.setCell (p:=⟨g2,0,none⟩) (show w.heap.size≤g2 by omega) (.int .i64 tn)).setCell (p:=⟨g2,1,none⟩) (show w.heap.size≤g2 by omega) (.slice A tl.length c))
    have HH5:=Lib.hid (HH4.out.ch hc5 (by omega))
    have hs5:w3.heap.size≤((w4.setCell ⟨g2,0,none⟩ (.int .i64 tn)).setCell ⟨g2,1,none⟩ (.slice A tl.length c)).heap.size:=Nat.le_trans hb.size hc5.size
    clear hb ho hc5 a0 a1 a2 a3 a4 a5 b0 b1 b2 b3 b4 b5 c0 c1 c2 c3 c4 c5 d0 d1 d2 d3 d4 d5
    go_upto_region 9 with fail
    generalize (w4.setCell ⟨g2,0,none⟩ (.int .i64 tn)).setCell ⟨g2,1,none⟩ (.slice A tl.length c)=w5 at *
    clear t0 t1 t2 t3 t4
    obtain ⟨a0,a1,a2,a3,a4,a5,a7⟩:=hd_cells HX5.out
    obtain ⟨b0,b1,b2,b3,b4,b5⟩:=hd_frozen HX5.out
    obtain ⟨c0,c1,c2,c3,c4,c5,c7⟩:=hd_cells HR5.out
    obtain ⟨d0,d1,d2,d3,d4,d5⟩:=hd_frozen HR5.out
    obtain ⟨t0,t1,t2,t3,t4⟩:=tk_all HG5.out
    simp only [Hd.zero] at a0 a1 a2 a3 a4 a5 c0 c1 c2 c3 c4 c5
    cases hd:decOk (B ht)
    ·have HT:=Lib.hid (show giveR ⟨hm,hp,ht,hs,hr,hc⟩ B n=giveBad B 30 by unfold giveR;rw [if_neg hn,if_neg (by simp only;omega),if_neg ht0,if_pos hd])
     obtain rfl:te=30:=by rw [← HTE.out];simp [truE,hd]
     clear HTE
     go_wp2_with fail
     have HF:=Lib.hid (take_fin HW5.out HH5.out HR5.out (Nat.le_succ _) (by omega) ⟨0,0,0,0,0,0⟩)
     obtain ⟨q0,q1,q2,q3,q4,q5,q6⟩:=hd_cells HF.out.1
     generalize hwf:hdS (w5) (w.heap.size+1) ⟨0,0,0,0,0,0⟩=wf at *
     have hwf2:((((((w5).setCell ⟨w.heap.size+1,0,none⟩ (.int .i64 (0))).setCell ⟨w.heap.size+1,1,none⟩ (.int .i64 (0))).setCell ⟨w.heap.size+1,2,none⟩ (.int .i64 (0))).setCell ⟨w.heap.size+1,3,none⟩ (.int .i64 (0))).setCell ⟨w.heap.size+1,4,none⟩ (.int .i64 (0))).setCell ⟨w.heap.size+1,5,none⟩ (.int .u64 (0))=wf:=hwf
     rw [hwf2]
     exact bodyPost_ret (v:=.tuple #[.agg #[.int .i64 (0),.int .i64 (0),.int .i64 (0),.int .i64 (0),.int .i64 (0),.int .u64 (0)],.int .i64 (30)]) (by simp [results,Tryz.results93,go_sem,q0,q1,q2,q3,q4,q5]) rfl ⟨by rw [HT.out];rfl,by rw [HT.out];exact HF.out.2.1.block rfl,⟨HF.out.2.2.os,HF.out.2.2.tape,HF.out.2.2.output,HF.out.2.2.size,HF.out.2.2.block⟩⟩
    ·obtain rfl:te=0:=by rw [← HTE.out];simp [truE,hd]
     have HDP:=Lib.hid (show decP (B ht)=⟨tn,tl⟩ by rw [← HTT.out];simp [decV,hd])
     clear HTE HTT
     have HBD:=Lib.hid (show tkBad ⟨tn,tl⟩=false by have:=decOk_bad hd;rw [HDP.out] at this;exact this)
     have hl50:tl.length≤50:=(tk_ok HBD.out).2.2.1
     have htk0:1≤ht:=by omega
     by_cases h50:tl.length<50
     ·have HT:=Lib.hid (show giveR ⟨hm,hp,ht,hs,hr,hc⟩ B n=⟨⟨hm,hp,ht,hs+1,hr,hc⟩,0,updB B ht (fullL (tkB ⟨tn,tl ++ [n]⟩))⟩ by
       unfold giveR;rw [if_neg hn,if_neg (by simp only;omega),if_neg ht0,if_neg (by rw [hd];simp),HDP.out,if_pos h50])
      have h50i:(tl.length:Int)<50:=by omega
      have hb2:tkBad ⟨tn,tl ++ [n]⟩=false:=by
       have h:=HBD.out
       unfold tkBad at h ⊢
       simp only [Bool.or_eq_false_iff,List.any_append] at h ⊢
       refine ⟨⟨h.1.1,by simp;omega⟩,h.2,?_⟩
       simp [oddB];omega
      have HLB:=Lib.hid (show layB ⟨tn,tl ++ [n]⟩ B ht=updB B ht (fullL (tkB ⟨tn,tl ++ [n]⟩))∧layE ⟨tn,tl ++ [n]⟩=0 by unfold layB layE;rw [hb2];exact ⟨rfl,rfl⟩)
      clear hb2
      go_upto_region 12 with fail
      go_wp2_with (at_builtin;refine Hid.out ?_)
      refine Lib.hid ?_
      refine wpList_append_sl rfl rfl elInt rfl rfl (HO5.out.alloc _) (Sl.one n (by simp) iC_len (by rfl)) (by simp [maxLen];omega) (by simp;omega) (by simp;omega) ?_
      intro v' w6 ho hgr hat
      have hc6:=Ch.of_grown (S:=fun k=>w3.heap.size≤k) hgr (fun k hk=>(HO5.out.lt k hk).1)
      have HX6:=Lib.hid (hc6.keep (blk_alloc HX5.out _) (by omega))
      have HR6:=Lib.hid (hc6.keep (blk_alloc HR5.out _) (by omega))
      have HG6:=Lib.hid (hc6.keep (blk_alloc HG5.out _) (by omega))
      have HW6:=Lib.hid ((HW5.out.alloc HW5.out.size (.cells #[.int .i64 n] 3)).trans (hc6.below (B:=w.heap.size) (by have:=HW5.out.size;simp;omega) (fun k hk=>by omega)))
      have HH6:=Lib.hid ((HH5.out.ch (Ch.alloc (Ch.refl (fun _=>False) w5) (.cells #[.int .i64 n] 3)) id).ch hc6 (by omega))
      have HO6:=Lib.hid ho
      have hs6:w3.heap.size≤w6.heap.size:=Nat.le_trans (by simp;omega) hc6.size
      obtain ⟨A6,c6,hv6⟩:=Sl.len' (ho.sl iC_len)
      rw [show (tl ++ [n]).length=tl.length+1 by simp] at hv6
      subst hv6
      clear ho hgr hat hc6 t0 t1 t2 t3 t4 a0 a1 a2 a3 a4 a5 b0 b1 b2 b3 b4 b5 c0 c1 c2 c3 c4 c5 d0 d1 d2 d3 d4 d5
      obtain ⟨t0,t1,t2,t3,t4⟩:=tk_all HG6.out
      have hc7:Ch (fun j=>j=g2) w6 (w6.setCell ⟨g2,1,none⟩ (.slice A6 (tl.length+1) c6)):=(Ch.refl (fun j=>j=g2) w6).setCell (p:=⟨g2,1,none⟩) rfl _
      have HO7:=Lib.hid (HO6.out.ch hc7 (fun j hj e=>by have:=(HO6.out.lt j hj).1;omega))
      have HX7:=Lib.hid (hc7.keep HX6.out hne2)
      have HR7:=Lib.hid (hc7.keep HR6.out hne3)
      have HG7:=Lib.hid (show (w6.setCell ⟨g2,1,none⟩ (.slice A6 (tl.length+1) c6)).heap[g2]?=some (.cells #[.int .i64 tn,.slice A6 (tl.length+1) c6] 167 (0,0)) from blk_set HG6.out 1 (.slice A6 (tl.length+1) c6))
      have HW7:=Lib.hid (HW6.out.setCell (p:=⟨g2,1,none⟩) (show w.heap.size≤g2 by omega) (.slice A6 (tl.length+1) c6))
      have HH7:=Lib.hid (HH6.out.ch hc7 (by omega))
      clear hc7
      go_upto_region 13 with fail
      generalize w6.setCell ⟨g2,1,none⟩ (.slice A6 (tl.length+1) c6)=w7 at *
      clear t0 t1 t2 t3 t4
      obtain ⟨a0,a1,a2,a3,a4,a5,a7⟩:=hd_cells HX7.out
      obtain ⟨t0,t1,t2,t3,t4⟩:=tk_all HG7.out
      simp only at a0 a1 a2 a3 a4 a5
      go_wp2_with fail
      refine (lay_any ht ⟨tn,tl ++ [n]⟩ _ gm B w7 HH7.out k3 k4 (HO7.out.sl iC_len) (by simp;omega)).mono ?_
      rintro e wc ⟨rfl,hbk,hch⟩
      rw [HLB.out.2]
      have HBK:=Lib.hid (show BookIs wc gm (updB B ht (fullL (tkB ⟨tn,tl ++ [n]⟩))) from by rw [← HLB.out.1];exact hbk)
      have HX6:=Lib.hid (hch.keep HX7.out (by omega))
      have HR6:=Lib.hid (hch.keep HR7.out (by omega))
      have HC6:=Lib.hid ((Ch.of_below (S:=fun k=>k=gm) HW7.out).trans hch)
      clear hbk hch a0 a1 a2 a3 a4 a5 t0 t1 t2 t3 t4 HX7
      have HX7:=HX6
      clear HX6
      obtain ⟨a0,a1,a2,a3,a4,a5,a7⟩:=hd_cells HX7.out
      obtain ⟨b0,b1,b2,b3,b4,b5⟩:=hd_frozen HX7.out
      obtain ⟨c0,c1,c2,c3,c4,c5,c7⟩:=hd_cells HR6.out
      obtain ⟨d0,d1,d2,d3,d4,d5⟩:=hd_frozen HR6.out
      simp only [Hd.zero] at a0 a1 a2 a3 a4 a5 c0 c1 c2 c3 c4 c5
      go_wp2_with fail
      have HF:=Lib.hid (take_fin2 (HC6.out.then ((Ch.refl (fun j=>j=w.heap.size) wc).setCell (p:=⟨w.heap.size,3,none⟩) rfl (.int .i64 (hs+1))) (fun i e=>.inr (by omega))) (HBK.out.ch ((Ch.refl (fun j=>j=w.heap.size) wc).setCell (p:=⟨w.heap.size,3,none⟩) rfl (.int .i64 (hs+1))) (by omega)) (blk_far HR6.out (a:=⟨w.heap.size,3,none⟩) (by simp) (.int .i64 (hs+1))) (Nat.le_succ _) (by omega) ⟨hm,hp,ht,hs+1,hr,hc⟩)
      obtain ⟨q0,q1,q2,q3,q4,q5,q6⟩:=hd_cells HF.out.1
      generalize hwf:hdS (wc.setCell ⟨w.heap.size,3,none⟩ (.int .i64 (hs+1))) (w.heap.size+1) ⟨hm,hp,ht,hs+1,hr,hc⟩=wf at *
      have hwf2:((((((wc.setCell ⟨w.heap.size,3,none⟩ (.int .i64 (hs+1))).setCell ⟨w.heap.size+1,0,none⟩ (.int .i64 (hm))).setCell ⟨w.heap.size+1,1,none⟩ (.int .i64 (hp))).setCell ⟨w.heap.size+1,2,none⟩ (.int .i64 (ht))).setCell ⟨w.heap.size+1,3,none⟩ (.int .i64 (hs+1))).setCell ⟨w.heap.size+1,4,none⟩ (.int .i64 (hr))).setCell ⟨w.heap.size+1,5,none⟩ (.int .u64 (hc))=wf:=hwf
      rw [hwf2]
      exact bodyPost_ret (v:=.tuple #[.agg #[.int .i64 (hm),.int .i64 (hp),.int .i64 (ht),.int .i64 (hs+1),.int .i64 (hr),.int .u64 (hc)],.int .i64 (0)]) (by simp [results,Tryz.results93,go_sem,q0,q1,q2,q3,q4,q5]) rfl ⟨by rw [HT.out];rfl,by rw [HT.out];exact HF.out.2.1.block rfl,⟨HF.out.2.2.os,HF.out.2.2.tape,HF.out.2.2.output,HF.out.2.2.size,HF.out.2.2.block⟩⟩
     ·have HT:=Lib.hid (show giveR ⟨hm,hp,ht,hs,hr,hc⟩ B n=⟨⟨hm,hp,n,hs+1,hr,hc⟩,0,updB B n (fullL (tkB ⟨ht,[]⟩))⟩ by
       unfold giveR;rw [if_neg hn,if_neg (by simp only;omega),if_neg ht0,if_neg (by rw [hd];simp),HDP.out,if_neg h50])
      have h50i:(50:Int)≤(tl.length:Int):=by omega
      have HLB:=Lib.hid (show layB ⟨ht,[]⟩ B n=updB B n (fullL (tkB ⟨ht,[]⟩))∧layE ⟨ht,[]⟩=0 by
       have:tkBad ⟨ht,[]⟩=false:=by unfold tkBad;simp [oddB];omega
       unfold layB layE
       rw [this];exact ⟨rfl,rfl⟩)
      go_wp2_with fail
      refine (lay_any n ⟨ht,[]⟩ _ gm B w5 HH5.out (by omega) (by omega) Sl.nil (by simp)).mono ?_
      rintro e wl ⟨rfl,hbk,hch⟩
      have HXL:=HX5
      have HRL:=HR5
      have HWL:=HW5
      have HM5:=Lib.hid (show BookIs wl gm (updB B n (fullL (tkB ⟨ht,[]⟩)))∧wl.heap[w.heap.size]?=some (hdB ⟨hm,hp,ht,hs,hr,hc⟩)∧wl.heap[w.heap.size+1]?=some (hdB Hd.zero)∧Ch (fun k=>k=gm) w wl from
       ⟨by rw [← HLB.out.1];exact hbk,hch.keep HXL.out (by omega),hch.keep HRL.out (by omega),(Ch.of_below (S:=fun k=>k=gm) HWL.out).trans hch⟩)
      rw [HLB.out.2]
      clear hbk hch a0 a1 a2 a3 a4 a5 b0 b1 b2 b3 b4 b5 c0 c1 c2 c3 c4 c5 d0 d1 d2 d3 d4 d5 t0 t1 t2 t3 t4
      have hlt5:=blk_lt HM5.out.2.1
      have hfz5:=blk_frozen HM5.out.2.1
      have b2:=hfz5 2
      have a2:=(hd_cells HM5.out.2.1).2.2.1
      simp only at a2
      clear hfz5
      have HX6:=Lib.hid (blk_set HM5.out.2.1 2 (.int .i64 n))
      have HR6:=Lib.hid (blk_far HM5.out.2.2.1 (a:=⟨w.heap.size,2,none⟩) (by simp) (.int .i64 n))
      have HC6:=Lib.hid (HM5.out.2.2.2.then ((Ch.refl (fun j=>j=w.heap.size) wl).setCell (p:=⟨w.heap.size,2,none⟩) rfl (.int .i64 n)) (fun i e=>.inr (by omega)))
      have HBK:=Lib.hid (HM5.out.1.ch ((Ch.refl (fun j=>j=w.heap.size) wl).setCell (p:=⟨w.heap.size,2,none⟩) rfl (.int .i64 n)) (by omega))
      go_upto_region 16 with fail
      generalize wl.setCell ⟨w.heap.size,2,none⟩ (.int .i64 n)=wc at *
      clear a2 b2
      have HX7:=Lib.hid (show wc.heap[w.heap.size]?=some (hdB ⟨hm,hp,n,hs,hr,hc⟩) from HX6.out)
      clear HX6
      obtain ⟨a0,a1,a2,a3,a4,a5,a7⟩:=hd_cells HX7.out
      obtain ⟨b0,b1,b2,b3,b4,b5⟩:=hd_frozen HX7.out
      obtain ⟨c0,c1,c2,c3,c4,c5,c7⟩:=hd_cells HR6.out
      obtain ⟨d0,d1,d2,d3,d4,d5⟩:=hd_frozen HR6.out
      simp only [Hd.zero] at a0 a1 a2 a3 a4 a5 c0 c1 c2 c3 c4 c5
      go_wp2_with fail
      have HF:=Lib.hid (take_fin2 (HC6.out.then ((Ch.refl (fun j=>j=w.heap.size) wc).setCell (p:=⟨w.heap.size,3,none⟩) rfl (.int .i64 (hs+1))) (fun i e=>.inr (by omega))) (HBK.out.ch ((Ch.refl (fun j=>j=w.heap.size) wc).setCell (p:=⟨w.heap.size,3,none⟩) rfl (.int .i64 (hs+1))) (by omega)) (blk_far HR6.out (a:=⟨w.heap.size,3,none⟩) (by simp) (.int .i64 (hs+1))) (Nat.le_succ _) (by omega) ⟨hm,hp,n,hs+1,hr,hc⟩)
      obtain ⟨q0,q1,q2,q3,q4,q5,q6⟩:=hd_cells HF.out.1
      generalize hwf:hdS (wc.setCell ⟨w.heap.size,3,none⟩ (.int .i64 (hs+1))) (w.heap.size+1) ⟨hm,hp,n,hs+1,hr,hc⟩=wf at *
      have hwf2:((((((wc.setCell ⟨w.heap.size,3,none⟩ (.int .i64 (hs+1))).setCell ⟨w.heap.size+1,0,none⟩ (.int .i64 (hm))).setCell ⟨w.heap.size+1,1,none⟩ (.int .i64 (hp))).setCell ⟨w.heap.size+1,2,none⟩ (.int .i64 (n))).setCell ⟨w.heap.size+1,3,none⟩ (.int .i64 (hs+1))).setCell ⟨w.heap.size+1,4,none⟩ (.int .i64 (hr))).setCell ⟨w.heap.size+1,5,none⟩ (.int .u64 (hc))=wf:=hwf
      rw [hwf2]
      exact bodyPost_ret (v:=.tuple #[.agg #[.int .i64 (hm),.int .i64 (hp),.int .i64 (n),.int .i64 (hs+1),.int .i64 (hr),.int .u64 (hc)],.int .i64 (0)]) (by simp [results,Tryz.results93,go_sem,q0,q1,q2,q3,q4,q5]) rfl ⟨by rw [HT.out];rfl,by rw [HT.out];exact HF.out.2.1.block rfl,⟨HF.out.2.2.os,HF.out.2.2.tape,HF.out.2.2.output,HF.out.2.2.size,HF.out.2.2.block⟩⟩
end Go.Proofs.YtknioodagnjchaaGreatDoor
