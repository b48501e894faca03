/- tree.parts. -/
import Derived.Test.YtknioodagnjchaaGreatDoorVTCut
import Derived.Test.YtknioodagnjchaaGreatDoorVCb
import Derived.Deep.RegionHeld3
set_option maxRecDepth 100000
set_option maxHeartbeats 8000000
namespace Go.Proofs.YtknioodagnjchaaGreatDoor
open Go.RowKit
def NdQ (B:Nat) (w wr:World) (g:Nat) (n:Nd):Prop:=∃ vk vc vd,wr.heap[g]?=some (ndB n vk vc vd)∧NdF B w (.agg #[.bool n.leaf,vk,vc,vd]) n
theorem NdQ.keep {B g:Nat} {w wr w':World} {n:Nd} (h:NdQ B w wr g n) (hb:Below wr.heap.size wr w'):NdQ B w w' g n:=by
 obtain ⟨vk,vc,vd,h0,h1⟩:=h
 exact ⟨vk,vc,vd,blk_keep h0 hb,h1⟩
theorem NdQ.form {B g:Nat} {w wr:World} {n:Nd} (h:NdQ B w wr g n):∃ A1 c1 A2 c2 A3 c3,wr.heap[g]?=some (ndB n (.slice A1 n.keys.length c1) (.slice A2 n.cells.length c2) (.slice A3 n.kids.length c3))∧NdF B w (.agg #[.bool n.leaf,.slice A1 n.keys.length c1,.slice A2 n.cells.length c2,.slice A3 n.kids.length c3]) n:=by
 obtain ⟨vk,vc,vd,h0,h1⟩:=h
 have h2:=h1
 obtain ⟨vk',vc',vd',ee,i1,i2,i3⟩:=h1
 injection ee with ee
 obtain ⟨rfl,rfl,rfl⟩:=agg4 ee
 obtain ⟨A1,c1,rfl,-,-⟩:=i1.cap
 obtain ⟨A2,c2,rfl,-,-⟩:=i2.cap
 obtain ⟨A3,c3,rfl,-,-⟩:=i3.cap
 exact ⟨A1,c1,A2,c2,A3,c3,h0,h2⟩
theorem NdQ.zero {B g:Nat} {w wr:World} (h:wr.heap[g]?=some (ndB Nd.zero (.slice none 0 0) (.slice none 0 0) (.slice none 0 0))):NdQ B w wr g Nd.zero:=⟨_,_,_,h,NdF.zero⟩
def bestI:Option (Nd × By × Nd)→Int
 | none=>-1
 | some b=>cutD b
def bestP (o:Option (Nd × By × Nd)):Nd × By × Nd:=o.getD (Nd.zero,[],Nd.zero)
theorem best_skip {n:Nd} {k:Nat} (h:cutOk (cutN n (k+1))=false):bestN n (k+1)=bestN n k:=by
 show (if cutOk (cutN n (k+1))=true then _ else _)=_
 rw [h];rfl
theorem best_ok {n:Nd} {k:Nat} (h:cutOk (cutN n (k+1))=true):bestN n (k+1)=if bestI (bestN n k)<0∨(cutD (cutN n (k+1)):Int)<bestI (bestN n k) then some (cutN n (k+1)) else bestN n k:=by
 show (if cutOk (cutN n (k+1))=true then _ else _)=_
 rw [if_pos h]
 cases hb:bestN n k with
 | none=>simp [bestI]
 | some b=>
   have e:bestI (some b)=cutD b:=rfl
   show (if cutD (cutN n (k+1))<cutD b then _ else _)=_
   by_cases hc:cutD (cutN n (k+1))<cutD b
   ·rw [if_pos hc,if_pos (.inr (by rw [e];omega))]
   ·rw [if_neg hc,if_neg (by rw [e];omega)]
theorem cut_sm {n:Nd} {m i:Nat} (h:n.Sm m) (hi:i<n.keys.length):(cutN n i).1.Sm m∧(cutN n i).2.2.Sm m:=by
 have h1:=h.k
 have h2:=h.c
 have h3:=h.d
 unfold cutN
 split
 ·exact ⟨⟨by simp;omega,by simp;omega,by simp,fun k hk=>h.kl k (List.mem_of_mem_take hk),fun c hc=>h.cl c (List.mem_of_mem_take hc)⟩,⟨by simp;omega,by simp;omega,by simp,fun k hk=>h.kl k (List.mem_of_mem_drop hk),fun c hc=>h.cl c (List.mem_of_mem_drop hc)⟩⟩
 ·exact ⟨⟨by simp;omega,by simp,by simp;omega,fun k hk=>h.kl k (List.mem_of_mem_take hk),fun c hc=>by simp at hc⟩,⟨by simp;omega,by simp,by simp;omega,fun k hk=>h.kl k (List.mem_of_mem_drop hk),fun c hc=>by simp at hc⟩⟩
theorem parts_any (n:Nd) (B:Nat) (v:Value) (w:World) (h:NdF B w v n) (hf:n.Fit) (hs:n.Sm 1000):
  Calls Tryz.prog 204 #[v] w fun e w'=>∃ vl vr,e=.returned (.tuple #[vl,.string (mkS (partsN n).2.1),vr])∧NdF B w vl (partsN n).1∧NdF B w vr (partsN n).2.2∧Below w.heap.size w w':=by
 obtain ⟨vk,vc,vd,rfl,h1,h2,h3⟩:=h
 obtain ⟨A1,c1,rfl,-,-⟩:=h1.cap
 obtain ⟨A2,c2,rfl,-,-⟩:=h2.cap
 obtain ⟨A3,c3,rfl,-,-⟩:=h3.cap
 have hsk:=hs.k
 have HSM:=Lib.hid hs
 have HFT:=Lib.hid hf
 have HNF:=Lib.hid (show NdF B w (.agg #[.bool n.leaf,.slice A1 n.keys.length c1,.slice A2 n.cells.length c2,.slice A3 n.kids.length c3]) n from ⟨_,_,_,rfl,h1,h2,h3⟩)
 clear h1 h2 h3 hs hf
 go_enter Tryz.func204,Tryz.ntmps204
 go_upto_region 2 with fail
 have HWB0:=Lib.hid (show Below w.heap.size w (((((w.alloc (ndB n (.slice A1 n.keys.length c1) (.slice A2 n.cells.length c2) (.slice A3 n.kids.length c3))).alloc (ndB Nd.zero (.slice none 0 0) (.slice none 0 0) (.slice none 0 0))).alloc (ndB Nd.zero (.slice none 0 0) (.slice none 0 0) (.slice none 0 0))).alloc (ndB Nd.zero (.slice none 0 0) (.slice none 0 0) (.slice none 0 0))).alloc (ndB Nd.zero (.slice none 0 0) (.slice none 0 0) (.slice none 0 0))) from
  (((((Below.refl _ w).alloc (Nat.le_refl _) _).alloc (by simp) _).alloc (by simp;omega) _).alloc (by simp;omega) _).alloc (by simp;omega) _)
 have HNB0:=Lib.hid (show (((((w.alloc (ndB n (.slice A1 n.keys.length c1) (.slice A2 n.cells.length c2) (.slice A3 n.kids.length c3))).alloc (ndB Nd.zero (.slice none 0 0) (.slice none 0 0) (.slice none 0 0))).alloc (ndB Nd.zero (.slice none 0 0) (.slice none 0 0) (.slice none 0 0))).alloc (ndB Nd.zero (.slice none 0 0) (.slice none 0 0) (.slice none 0 0))).alloc (ndB Nd.zero (.slice none 0 0) (.slice none 0 0) (.slice none 0 0))).heap[w.heap.size]?=some (ndB n (.slice A1 n.keys.length c1) (.slice A2 n.cells.length c2) (.slice A3 n.kids.length c3)) from blk_alloc (blk_alloc (blk_alloc (blk_alloc (blk_new rfl) _) _) _) _)
 have HZ10:=Lib.hid (show (((((w.alloc (ndB n (.slice A1 n.keys.length c1) (.slice A2 n.cells.length c2) (.slice A3 n.kids.length c3))).alloc (ndB Nd.zero (.slice none 0 0) (.slice none 0 0) (.slice none 0 0))).alloc (ndB Nd.zero (.slice none 0 0) (.slice none 0 0) (.slice none 0 0))).alloc (ndB Nd.zero (.slice none 0 0) (.slice none 0 0) (.slice none 0 0))).alloc (ndB Nd.zero (.slice none 0 0) (.slice none 0 0) (.slice none 0 0))).heap[w.heap.size+1]?=some (ndB Nd.zero (.slice none 0 0) (.slice none 0 0) (.slice none 0 0)) from blk_alloc (blk_alloc (blk_alloc (blk_new (by simp)) _) _) _)
 have HZ20:=Lib.hid (show (((((w.alloc (ndB n (.slice A1 n.keys.length c1) (.slice A2 n.cells.length c2) (.slice A3 n.kids.length c3))).alloc (ndB Nd.zero (.slice none 0 0) (.slice none 0 0) (.slice none 0 0))).alloc (ndB Nd.zero (.slice none 0 0) (.slice none 0 0) (.slice none 0 0))).alloc (ndB Nd.zero (.slice none 0 0) (.slice none 0 0) (.slice none 0 0))).alloc (ndB Nd.zero (.slice none 0 0) (.slice none 0 0) (.slice none 0 0))).heap[w.heap.size+1+1]?=some (ndB Nd.zero (.slice none 0 0) (.slice none 0 0) (.slice none 0 0)) from blk_alloc (blk_alloc (blk_new (by simp)) _) _)
 have HLP0:=Lib.hid (show (((((w.alloc (ndB n (.slice A1 n.keys.length c1) (.slice A2 n.cells.length c2) (.slice A3 n.kids.length c3))).alloc (ndB Nd.zero (.slice none 0 0) (.slice none 0 0) (.slice none 0 0))).alloc (ndB Nd.zero (.slice none 0 0) (.slice none 0 0) (.slice none 0 0))).alloc (ndB Nd.zero (.slice none 0 0) (.slice none 0 0) (.slice none 0 0))).alloc (ndB Nd.zero (.slice none 0 0) (.slice none 0 0) (.slice none 0 0))).heap[w.heap.size+1+1+1]?=some (ndB Nd.zero (.slice none 0 0) (.slice none 0 0) (.slice none 0 0)) from blk_alloc (blk_new (by simp)) _)
 have HRP0:=Lib.hid (show (((((w.alloc (ndB n (.slice A1 n.keys.length c1) (.slice A2 n.cells.length c2) (.slice A3 n.kids.length c3))).alloc (ndB Nd.zero (.slice none 0 0) (.slice none 0 0) (.slice none 0 0))).alloc (ndB Nd.zero (.slice none 0 0) (.slice none 0 0) (.slice none 0 0))).alloc (ndB Nd.zero (.slice none 0 0) (.slice none 0 0) (.slice none 0 0))).alloc (ndB Nd.zero (.slice none 0 0) (.slice none 0 0) (.slice none 0 0))).heap[w.heap.size+1+1+1+1]?=some (ndB Nd.zero (.slice none 0 0) (.slice none 0 0) (.slice none 0 0)) from blk_new (by simp))
 generalize hw1:((((w.alloc (.cells #[.bool n.leaf,.slice A1 n.keys.length c1,.slice A2 n.cells.length c2,.slice A3 n.kids.length c3] 110)).alloc (.cells #[.bool false,.slice none 0 0,.slice none 0 0,.slice none 0 0] 110)).alloc (.cells #[.bool false,.slice none 0 0,.slice none 0 0,.slice none 0 0] 110)).alloc (.cells #[.bool false,.slice none 0 0,.slice none 0 0,.slice none 0 0] 110)).alloc (.cells #[.bool false,.slice none 0 0,.slice none 0 0,.slice none 0 0] 110)=w3 at *
 have hw2:((((w.alloc (ndB n (.slice A1 n.keys.length c1) (.slice A2 n.cells.length c2) (.slice A3 n.kids.length c3))).alloc (ndB Nd.zero (.slice none 0 0) (.slice none 0 0) (.slice none 0 0))).alloc (ndB Nd.zero (.slice none 0 0) (.slice none 0 0) (.slice none 0 0))).alloc (ndB Nd.zero (.slice none 0 0) (.slice none 0 0) (.slice none 0 0))).alloc (ndB Nd.zero (.slice none 0 0) (.slice none 0 0) (.slice none 0 0))=w3:=hw1
 rw [hw2] at HWB0 HNB0 HZ10 HZ20 HLP0 HRP0
 clear hw1 hw2
 go_wp2_with fail
 go_loopw [7,8,9] (fun bk bi iv wr=>∃ k:Nat,iv=.int .i64 ((k:Int)+1)∧k≤n.keys.length - 1∧bk=.string (mkS (bestP (bestN n k)).2.1)∧bi=.int .i64 (bestI (bestN n k))∧
  NdQ B w wr (w.heap.size+1+1+1) (bestP (bestN n k)).1∧NdQ B w wr (w.heap.size+1+1+1+1) (bestP (bestN n k)).2.2∧Below w.heap.size w wr∧
  wr.heap[w.heap.size]?=some (ndB n (.slice A1 n.keys.length c1) (.slice A2 n.cells.length c2) (.slice A3 n.kids.length c3))∧wr.heap[w.heap.size+1]?=some (ndB Nd.zero (.slice none 0 0) (.slice none 0 0) (.slice none 0 0))∧
  wr.heap[w.heap.size+1+1]?=some (ndB Nd.zero (.slice none 0 0) (.slice none 0 0) (.slice none 0 0)))
  (fun _ _ iv _=>n.keys.length+1 - (intOf iv).toNat)
 case atStart=>
  exact ⟨0,rfl,Nat.zero_le _,rfl,rfl,NdQ.zero HLP0.out,NdQ.zero HRP0.out,HWB0.out,HNB0.out,HZ10.out,HZ20.out⟩
 case round=>
  obtain ⟨k,rfl,hk,rfl,rfl,hlp,hrp,hwb,hnb,hz1,hz2⟩:=hrel
  have HLP:=Lib.hid hlp
  have HRP:=Lib.hid hrp
  have HWB:=Lib.hid hwb
  have HNB:=Lib.hid hnb
  have HZ1:=Lib.hid hz1
  have HZ2:=Lib.hid hz2
  clear hlp hrp hwb hnb hz1 hz2 HWB0 HNB0 HZ10 HZ20 HLP0 HRP0
  obtain ⟨a0,a1,a2,a3,a4⟩:=nd_cells HNB.out
  by_cases hlt:k+1<n.keys.length
  ·have hlt1:((k:Int)+1)<(n.keys.length:Int):=by omega
   have hk0:(0:Int)≤((k:Int)+1):=by omega
   obtain ⟨⟨cl,ck,cr⟩,hcu⟩:∃ x,cutN n (k+1)=x:=⟨_,rfl⟩
   have HCU:=Lib.hid hcu
   have HCT:=Lib.hid (cut_any n (k+1) B _ wr (HNF.out.keep HWB.out) HFT.out (HSM.out.bd (by decide)) hlt)
   have HCS:=Lib.hid (cut_sm HSM.out hlt)
   rw [hcu] at HCT HCS
   clear hcu
   go_wp2_with fail
   refine HCT.out.mono ?_
   rintro e w4 ⟨vl,vr,rfl,hsl,hsr,hb⟩
   have hl:=hsl B w HNF.out
   have hr:=hsr B w HNF.out
   have HHL:=Lib.hid hl
   have HHR:=Lib.hid hr
   clear hsl hsr
   obtain ⟨lk,lc,ld,rfl,l1,l2,l3⟩:=hl
   obtain ⟨L1,e1,rfl,-,-⟩:=l1.cap
   obtain ⟨L2,e2,rfl,-,-⟩:=l2.cap
   obtain ⟨L3,e3,rfl,-,-⟩:=l3.cap
   obtain ⟨rk,rc,rd,rfl,r1,r2,r3⟩:=hr
   obtain ⟨R1,f1,rfl,-,-⟩:=r1.cap
   obtain ⟨R2,f2,rfl,-,-⟩:=r2.cap
   obtain ⟨R3,f3,rfl,-,-⟩:=r3.cap
   have HT5:=Lib.hid (show Below wr.heap.size wr ((w4.alloc (ndB cl (.slice L1 cl.keys.length e1) (.slice L2 cl.cells.length e2) (.slice L3 cl.kids.length e3))).alloc (ndB cr (.slice R1 cr.keys.length f1) (.slice R2 cr.cells.length f2) (.slice R3 cr.kids.length f3))) from (hb.alloc hb.size _).alloc (by have:=hb.size;simp;omega) _)
   have HBW:=Lib.hid (show Below w4.heap.size w4 ((w4.alloc (ndB cl (.slice L1 cl.keys.length e1) (.slice L2 cl.cells.length e2) (.slice L3 cl.kids.length e3))).alloc (ndB cr (.slice R1 cr.keys.length f1) (.slice R2 cr.cells.length f2) (.slice R3 cr.kids.length f3))) from ((Below.refl _ w4).alloc (Nat.le_refl _) _).alloc (by simp) _)
   have HL5:=Lib.hid (show ((w4.alloc (ndB cl (.slice L1 cl.keys.length e1) (.slice L2 cl.cells.length e2) (.slice L3 cl.kids.length e3))).alloc (ndB cr (.slice R1 cr.keys.length f1) (.slice R2 cr.cells.length f2) (.slice R3 cr.kids.length f3))).heap[w4.heap.size]?=some (ndB cl (.slice L1 cl.keys.length e1) (.slice L2 cl.cells.length e2) (.slice L3 cl.kids.length e3)) from blk_alloc (blk_new rfl) _)
   have HR5:=Lib.hid (show ((w4.alloc (ndB cl (.slice L1 cl.keys.length e1) (.slice L2 cl.cells.length e2) (.slice L3 cl.kids.length e3))).alloc (ndB cr (.slice R1 cr.keys.length f1) (.slice R2 cr.cells.length f2) (.slice R3 cr.kids.length f3))).heap[w4.heap.size+1]?=some (ndB cr (.slice R1 cr.keys.length f1) (.slice R2 cr.cells.length f2) (.slice R3 cr.kids.length f3)) from blk_new (by simp))
   have hsz4:=hb.size
   have hwr:w.heap.size+1+1+1+1<wr.heap.size:=by
    obtain ⟨_,_,_,h,_⟩:=HRP.out
    exact blk_lt h
   clear hb a0 a1 a2 a3 a4 HCT
   have HLF:=Lib.hid ((show NdF B w (.agg #[.bool cl.leaf,.slice L1 cl.keys.length e1,.slice L2 cl.cells.length e2,.slice L3 cl.kids.length e3]) cl from ⟨_,_,_,rfl,l1,l2,l3⟩).keep (HWB.out.trans (HT5.out.mono HWB.out.size)))
   have HRF:=Lib.hid ((show NdF B w (.agg #[.bool cr.leaf,.slice R1 cr.keys.length f1,.slice R2 cr.cells.length f2,.slice R3 cr.kids.length f3]) cr from ⟨_,_,_,rfl,r1,r2,r3⟩).keep (HWB.out.trans (HT5.out.mono HWB.out.size)))
   clear l1 l2 l3 r1 r2 r3 HBW
   go_upto_region 8 with fail
   generalize hw1:(w4.alloc (.cells #[.bool cl.leaf,.slice L1 cl.keys.length e1,.slice L2 cl.cells.length e2,.slice L3 cl.kids.length e3] 110)).alloc (.cells #[.bool cr.leaf,.slice R1 cr.keys.length f1,.slice R2 cr.cells.length f2,.slice R3 cr.kids.length f3] 110)=w5 at *
   have hw2:(w4.alloc (ndB cl (.slice L1 cl.keys.length e1) (.slice L2 cl.cells.length e2) (.slice L3 cl.kids.length e3))).alloc (ndB cr (.slice R1 cr.keys.length f1) (.slice R2 cr.cells.length f2) (.slice R3 cr.kids.length f3))=w5:=hw1
   rw [hw2] at HT5 HL5 HR5 HLF HRF
   clear hw1 hw2
   have HLV:=Lib.hid (fun (w':World) (h:Below w5.heap.size w5 w')=>(HLF.out.keep h).val)
   have HRV:=Lib.hid (fun (w':World) (h:Below w5.heap.size w5 w')=>(HRF.out.keep h).val)
   have HK5:=Lib.hid (Below.refl w5.heap.size w5)
   have hw45:w4.heap.size+1<w5.heap.size:=blk_lt HR5.out
   obtain ⟨p0,p1,p2,p3,p4⟩:=nd_cells HL5.out
   obtain ⟨q0,q1,q2,q3,q4⟩:=nd_cells HR5.out
   go_wp2_with fail
   refine (tsize_any _ _ _ (HLV.out _ HK5.out) (HCS.out.1.bd (by decide))).mono ?_
   rintro e w6 ⟨rfl,hb⟩
   have HK6:=Lib.hid (HK5.out.trans (hb.mono HK5.out.size))
   clear hb p0 p1 p2 p3 p4 q0 q1 q2 q3 q4
   obtain ⟨p0,p1,p2,p3,p4⟩:=nd_cells (blk_keep HL5.out HK6.out)
   obtain ⟨q0,q1,q2,q3,q4⟩:=nd_cells (blk_keep HR5.out HK6.out)
   by_cases t0:tsize cl=0
   ·have t1:((tsize cl:Int) == 0)=true:=by rw [t0];rfl
    have HSK:=Lib.hid (show bestN n (k+1)=bestN n k from best_skip (by rw [HCU.out];unfold cutOk;simp [t0]))
    have HTT:=Lib.hid (HT5.out.trans (HK6.out.mono HT5.out.size))
    go_wp2_with fail
    go_roundw
    case rel=>exact ⟨k+1,by go_num,by omega,by rw [HSK.out],by rw [HSK.out],by rw [HSK.out];exact HLP.out.keep HTT.out,by rw [HSK.out];exact HRP.out.keep HTT.out,HWB.out.trans (HTT.out.mono HWB.out.size),blk_keep HNB.out HTT.out,blk_keep HZ1.out HTT.out,blk_keep HZ2.out HTT.out⟩
    case measure=>simp [intOf];omega
   ·have t1:((tsize cl:Int) == 0)=false:=by simpa using t0
    go_wp2_with fail
    refine (tsize_any _ _ _ (HRV.out _ HK6.out) (HCS.out.2.bd (by decide))).mono ?_
    rintro e w7 ⟨rfl,hb⟩
    have HK7:=Lib.hid (HK6.out.trans (hb.mono HK6.out.size))
    clear hb p0 p1 p2 p3 p4 q0 q1 q2 q3 q4
    obtain ⟨p0,p1,p2,p3,p4⟩:=nd_cells (blk_keep HL5.out HK7.out)
    obtain ⟨q0,q1,q2,q3,q4⟩:=nd_cells (blk_keep HR5.out HK7.out)
    by_cases t2:tsize cr=0
    ·have t3:((tsize cr:Int) == 0)=true:=by rw [t2];rfl
     have HSK:=Lib.hid (show bestN n (k+1)=bestN n k from best_skip (by rw [HCU.out];unfold cutOk;simp [t2]))
     have HTT:=Lib.hid (HT5.out.trans (HK7.out.mono HT5.out.size))
     go_wp2_with fail
     go_roundw
     case rel=>exact ⟨k+1,by go_num,by omega,by rw [HSK.out],by rw [HSK.out],by rw [HSK.out];exact HLP.out.keep HTT.out,by rw [HSK.out];exact HRP.out.keep HTT.out,HWB.out.trans (HTT.out.mono HWB.out.size),blk_keep HNB.out HTT.out,blk_keep HZ1.out HTT.out,blk_keep HZ2.out HTT.out⟩
     case measure=>simp [intOf];omega
    ·have t3:((tsize cr:Int) == 0)=false:=by simpa using t2
     go_wp2_with fail
     refine (fits_any _ _ _ (HLV.out _ HK7.out) (HCS.out.1.bd (by decide))).mono ?_
     rintro e w8 ⟨rfl,hb⟩
     have HK8:=Lib.hid (HK7.out.trans (hb.mono HK7.out.size))
     clear hb p0 p1 p2 p3 p4 q0 q1 q2 q3 q4
     obtain ⟨p0,p1,p2,p3,p4⟩:=nd_cells (blk_keep HL5.out HK8.out)
     obtain ⟨q0,q1,q2,q3,q4⟩:=nd_cells (blk_keep HR5.out HK8.out)
     cases t4:fitsN cl
     ·skip
      have HSK:=Lib.hid (show bestN n (k+1)=bestN n k from best_skip (by rw [HCU.out];unfold cutOk;simp [t4]))
      have HTT:=Lib.hid (HT5.out.trans (HK8.out.mono HT5.out.size))
      go_wp2_with fail
      go_roundw
      case rel=>exact ⟨k+1,by go_num,by omega,by rw [HSK.out],by rw [HSK.out],by rw [HSK.out];exact HLP.out.keep HTT.out,by rw [HSK.out];exact HRP.out.keep HTT.out,HWB.out.trans (HTT.out.mono HWB.out.size),blk_keep HNB.out HTT.out,blk_keep HZ1.out HTT.out,blk_keep HZ2.out HTT.out⟩
      case measure=>simp [intOf];omega
     ·skip
      go_wp2_with fail
      refine (fits_any _ _ _ (HRV.out _ HK8.out) (HCS.out.2.bd (by decide))).mono ?_
      rintro e w9 ⟨rfl,hb⟩
      have HK9:=Lib.hid (HK8.out.trans (hb.mono HK8.out.size))
      clear hb p0 p1 p2 p3 p4 q0 q1 q2 q3 q4
      obtain ⟨p0,p1,p2,p3,p4⟩:=nd_cells (blk_keep HL5.out HK9.out)
      obtain ⟨q0,q1,q2,q3,q4⟩:=nd_cells (blk_keep HR5.out HK9.out)
      cases t5:fitsN cr
      ·skip
       have HSK:=Lib.hid (show bestN n (k+1)=bestN n k from best_skip (by rw [HCU.out];unfold cutOk;simp [t5]))
       have HTT:=Lib.hid (HT5.out.trans (HK9.out.mono HT5.out.size))
       go_wp2_with fail
       go_roundw
       case rel=>exact ⟨k+1,by go_num,by omega,by rw [HSK.out],by rw [HSK.out],by rw [HSK.out];exact HLP.out.keep HTT.out,by rw [HSK.out];exact HRP.out.keep HTT.out,HWB.out.trans (HTT.out.mono HWB.out.size),blk_keep HNB.out HTT.out,blk_keep HZ1.out HTT.out,blk_keep HZ2.out HTT.out⟩
       case measure=>simp [intOf];omega
      ·have HD:=Lib.hid (show cutOk (cutN n (k+1))=true∧cutD (cutN n (k+1))=max (tsize cl) (tsize cr) by rw [HCU.out];exact ⟨by unfold cutOk;simp [t0,t2,t4,t5],rfl⟩)
       have HSL:=Lib.hid (fun (y:Up w9)=>tsize_any cl _ y.w (HLV.out _ (HK9.out.trans (y.h.mono HK9.out.size))) (HCS.out.1.bd (by decide)))
       have HSR:=Lib.hid (fun (y:Up w9)=>tsize_any cr _ y.w (HRV.out _ (HK9.out.trans (y.h.mono HK9.out.size))) (HCS.out.2.bd (by decide)))
       clear t0 t1 t2 t3 t4 t5
       go_wp2_with fail
       have x0:=up_at p0 p4
       have x1:=up_at p1 p4
       have x2:=up_at p2 p4
       have x3:=up_at p3 p4
       have y0:=up_at q0 q4
       have y1:=up_at q1 q4
       have y2:=up_at q2 q4
       have y3:=up_at q3 q4
       clear p0 p1 p2 p3 q0 q1 q2 q3
       refine wp_region_up (by kernel_rfl) (by kernel_rfl) ?_
       repeat (go_big_quiet_step (first
        | (go_at_call 174;(with_reducible exact up_call (HSL.out _)))
        | (go_at_call 174;(with_reducible exact up_call (HSR.out _)))))
       refine wpQuiet_nil ?_
       rintro w' ⟨⟨w10,hb⟩,rfl⟩
       have HKA:=Lib.hid (HK9.out.trans (hb.mono HK9.out.size))
       clear hb x0 x1 x2 x3 y0 y1 y2 y3 p4 q4 HSL HSR
       have HBO:=Lib.hid (best_ok HD.out.1)
       have hDI:(max (tsize cl:Int) (tsize cr:Int))=((max (tsize cl) (tsize cr):Nat):Int):=by omega
       have HDI:=Lib.hid (show (cutD (cutN n (k+1)):Int)=max (tsize cl:Int) (tsize cr:Int) by rw [HD.out.2,hDI])
       rw [HDI.out] at HBO
       have HDN:=Lib.hid (show 0≤max (tsize cl:Int) (tsize cr:Int) by omega)
       clear hDI
       generalize max (tsize cl:Int) (tsize cr:Int)=D at *
       obtain ⟨bi,hbi⟩:∃ x,bestI (bestN n k)=x:=⟨_,rfl⟩
       have HBI:=Lib.hid hbi
       rw [hbi] at HBO ⊢
       clear hbi
       by_cases g1:bi<0
       ·have HBN:=Lib.hid (HBO.out.trans (if_pos (.inl g1)))
        have HTT:=Lib.hid (HT5.out.trans (HKA.out.mono HT5.out.size))
        obtain ⟨gk,gc,gd,gh,-⟩:=HLP.out.keep HTT.out
        obtain ⟨mk,mc,md,mh,-⟩:=HRP.out.keep HTT.out
        have HGH:=Lib.hid gh
        have HMH:=Lib.hid mh
        obtain ⟨p0,p1,p2,p3,p4⟩:=nd_cells (blk_keep HL5.out HKA.out)
        obtain ⟨q0,q1,q2,q3,q4⟩:=nd_cells (blk_keep HR5.out HKA.out)
        obtain ⟨s0,s1,s2,s3,s4⟩:=nd_cells gh
        obtain ⟨t0,t1,t2,t3,t4⟩:=nd_cells mh
        have fs:=blk_frozen gh
        have ft:=blk_frozen mh
        clear gh mh
        have n1:¬ (w4.heap.size=w.heap.size+1+1+1):=by omega
        have n2:¬ (w4.heap.size=w.heap.size+1+1+1+1):=by omega
        have n3:¬ (w4.heap.size+1=w.heap.size+1+1+1):=by omega
        have n4:¬ (w4.heap.size+1=w.heap.size+1+1+1+1):=by omega
        go_wp2_with fail
        go_region
        obtain ⟨W,hW,u1,u2,u3⟩:=set8 HGH.out HMH.out (by omega) cl.leaf cr.leaf (.slice L1 cl.keys.length e1) (.slice L2 cl.cells.length e2) (.slice L3 cl.kids.length e3) (.slice R1 cr.keys.length f1) (.slice R2 cr.cells.length f2) (.slice R3 cr.kids.length f3)
        rw [← hW]
        have HU1:=Lib.hid u1
        have HU2:=Lib.hid u2
        have HU3:=Lib.hid u3.drew
        clear hW s0 s1 s2 s3 s4 t0 t1 t2 t3 t4 fs ft p0 p1 p2 p3 p4 q0 q1 q2 q3 q4 u1 u2 u3
        go_wp2_with fail
        go_roundw
        case rel=>
         have hbw:Below w.heap.size w W.drew:=(HWB.out.trans (HTT.out.mono HWB.out.size)).trans (HU3.out.below (by have:=HWB.out.size;have:=HTT.out.size;omega) (by omega))
         exact ⟨k+1,by go_num,by omega,by rw [HBN.out,HCU.out];rfl,by rw [HBN.out];exact congrArg _ HDI.out.symm,by rw [HBN.out,HCU.out];exact ⟨_,_,_,HU1.out,HHL.out⟩,by rw [HBN.out,HCU.out];exact ⟨_,_,_,HU2.out,HHR.out⟩,hbw,
          HU3.out.keep (blk_keep HNB.out HTT.out) (by omega),HU3.out.keep (blk_keep HZ1.out HTT.out) (by omega),HU3.out.keep (blk_keep HZ2.out HTT.out) (by omega)⟩
        case measure=>simp [intOf];omega
       ·by_cases g2:D<bi
        ·have HBN:=Lib.hid (HBO.out.trans (if_pos (.inr g2)))
         have HTT:=Lib.hid (HT5.out.trans (HKA.out.mono HT5.out.size))
         obtain ⟨gk,gc,gd,gh,-⟩:=HLP.out.keep HTT.out
         obtain ⟨mk,mc,md,mh,-⟩:=HRP.out.keep HTT.out
         have HGH:=Lib.hid gh
         have HMH:=Lib.hid mh
         obtain ⟨p0,p1,p2,p3,p4⟩:=nd_cells (blk_keep HL5.out HKA.out)
         obtain ⟨q0,q1,q2,q3,q4⟩:=nd_cells (blk_keep HR5.out HKA.out)
         obtain ⟨s0,s1,s2,s3,s4⟩:=nd_cells gh
         obtain ⟨t0,t1,t2,t3,t4⟩:=nd_cells mh
         have fs:=blk_frozen gh
         have ft:=blk_frozen mh
         clear gh mh
         have n1:¬ (w4.heap.size=w.heap.size+1+1+1):=by omega
         have n2:¬ (w4.heap.size=w.heap.size+1+1+1+1):=by omega
         have n3:¬ (w4.heap.size+1=w.heap.size+1+1+1):=by omega
         have n4:¬ (w4.heap.size+1=w.heap.size+1+1+1+1):=by omega
         go_wp2_with fail
         go_region
         obtain ⟨W,hW,u1,u2,u3⟩:=set8 HGH.out HMH.out (by omega) cl.leaf cr.leaf (.slice L1 cl.keys.length e1) (.slice L2 cl.cells.length e2) (.slice L3 cl.kids.length e3) (.slice R1 cr.keys.length f1) (.slice R2 cr.cells.length f2) (.slice R3 cr.kids.length f3)
         rw [← hW]
         have HU1:=Lib.hid u1
         have HU2:=Lib.hid u2
         have HU3:=Lib.hid u3.drew
         clear hW s0 s1 s2 s3 s4 t0 t1 t2 t3 t4 fs ft p0 p1 p2 p3 p4 q0 q1 q2 q3 q4 u1 u2 u3
         go_wp2_with fail
         go_roundw
         case rel=>
          have hbw:Below w.heap.size w W.drew:=(HWB.out.trans (HTT.out.mono HWB.out.size)).trans (HU3.out.below (by have:=HWB.out.size;have:=HTT.out.size;omega) (by omega))
          exact ⟨k+1,by go_num,by omega,by rw [HBN.out,HCU.out];rfl,by rw [HBN.out];exact congrArg _ HDI.out.symm,by rw [HBN.out,HCU.out];exact ⟨_,_,_,HU1.out,HHL.out⟩,by rw [HBN.out,HCU.out];exact ⟨_,_,_,HU2.out,HHR.out⟩,hbw,
           HU3.out.keep (blk_keep HNB.out HTT.out) (by omega),HU3.out.keep (blk_keep HZ1.out HTT.out) (by omega),HU3.out.keep (blk_keep HZ2.out HTT.out) (by omega)⟩
         case measure=>simp [intOf];omega
        ·have HBN:=Lib.hid (HBO.out.trans (if_neg (by omega)))
         have HTT:=Lib.hid (HT5.out.trans (HKA.out.mono HT5.out.size))
         have g3:decide (D<bi)=false:=decide_eq_false g2
         have g4:decide (bi<0)=false:=decide_eq_false g1
         go_wp2_with fail
         go_roundw
         case rel=>exact ⟨k+1,by go_num,by omega,by rw [HBN.out],by rw [HBN.out,HBI.out],by rw [HBN.out];exact HLP.out.keep HTT.out,by rw [HBN.out];exact HRP.out.keep HTT.out,HWB.out.trans (HTT.out.mono HWB.out.size),blk_keep HNB.out HTT.out,blk_keep HZ1.out HTT.out,blk_keep HZ2.out HTT.out⟩
         case measure=>simp [intOf];omega
  ·have HV:=Lib.hid (show partsN n=bestP (bestN n k) by
    unfold partsN bestP
    rw [show n.keys.length - 1=k by omega])
   have hlt1:¬ (((k:Int)+1)<(n.keys.length:Int)):=by omega
   have hlt2:decide (((k:Int)+1)<(n.keys.length:Int))=false:=decide_eq_false hlt1
   obtain ⟨L1,e1,L2,e2,L3,e3,hl,hlf⟩:=HLP.out.form
   obtain ⟨R1,f1,R2,f2,R3,f3,hr,hrf⟩:=HRP.out.form
   generalize bestP (bestN n k)=X at *
   obtain ⟨cl,ck,cr⟩:=X
   have HHL:=Lib.hid hlf
   have HHR:=Lib.hid hrf
   obtain ⟨p0,p1,p2,p3,p4⟩:=nd_cells hl
   obtain ⟨q0,q1,q2,q3,q4⟩:=nd_cells hr
   obtain ⟨s0,s1,s2,s3,s4⟩:=nd_cells HZ1.out
   obtain ⟨t0,t1,t2,t3,t4⟩:=nd_cells HZ2.out
   simp only [Nd.zero] at s0 t0
   have fs:=blk_frozen HZ1.out
   have ft:=blk_frozen HZ2.out
   clear hl hr hlf hrf
   go_wp2_with fail
   go_region
   obtain ⟨W,hW,u1,u2,u3⟩:=set8 HZ1.out HZ2.out (by omega) cl.leaf cr.leaf (.slice L1 cl.keys.length e1) (.slice L2 cl.cells.length e2) (.slice L3 cl.kids.length e3) (.slice R1 cr.keys.length f1) (.slice R2 cr.cells.length f2) (.slice R3 cr.kids.length f3)
   rw [← hW]
   clear hW s0 s1 s2 s3 s4 t0 t1 t2 t3 t4 fs ft p0 p1 p2 p3 p4 q0 q1 q2 q3 q4 a0 a1 a2 a3 a4
   obtain ⟨z0,z1,z2,z3,-⟩:=nd_cells u1
   obtain ⟨y0,y1,y2,y3,-⟩:=nd_cells u2
   simp only at z0 y0
   have HU3:=Lib.hid u3.drew
   clear u1 u2 u3
   go_wp2_with fail
   refine bodyPost_ret (v:=.tuple #[.agg #[.bool cl.leaf,.slice L1 cl.keys.length e1,.slice L2 cl.cells.length e2,.slice L3 cl.kids.length e3],.string (mkS ck),.agg #[.bool cr.leaf,.slice R1 cr.keys.length f1,.slice R2 cr.cells.length f2,.slice R3 cr.kids.length f3]]) (by simp [results,Tryz.results204,go_sem,z0,z1,z2,z3,y0,y1,y2,y3]) rfl ?_
   rw [HV.out]
   exact ⟨_,_,rfl,HHL.out,HHR.out,HWB.out.trans (HU3.out.below HWB.out.size (by omega))⟩
end Go.Proofs.YtknioodagnjchaaGreatDoor
