/- The walk of cahierlaw17.WalkFails. -/
import Derived.Test.YtknioodagnjchaaGreatDoorVWe
set_option maxRecDepth 100000
set_option maxHeartbeats 4000000
namespace Go.Proofs.YtknioodagnjchaaGreatDoor
open Go.RowKit Go.Shelf
attribute [local go_sem] Oper.semAt_some
theorem mod_40 (x:Int):∃ k:Nat,wrap64 (1+wrap64 ((IntKind.u64.wrap x).tmod 40))=(k:Int)∧1≤k∧k≤40:=by
 obtain ⟨k,h1,h2⟩:=mod_nat x 40 (by omega) (by omega)
 rw [h1]
 refine ⟨k+1,?_,by omega,by omega⟩
 unfold wrap64
 omega
def badN (pre:List (Pr × Int)):Nat:=(pre.filter fun p=>!decide (p.2=0)).length
theorem badN_ok (ps:List Pr):badN (okP ps)=0:=by
 unfold badN okP
 rw [List.filter_eq_nil_iff.2 fun p hp=>?_]
 ·rfl
 ·obtain ⟨q,-,rfl⟩:=List.mem_map.1 hp
  simp
theorem badN_snoc (pre:List (Pr × Int)) (x:Pr × Int):badN (pre ++ [x])=badN pre+if x.2=0 then 0 else 1:=by
 unfold badN
 rw [List.filter_append,List.length_append]
 by_cases h:x.2=0 <;> simp [h]
theorem Stay.fls {B gs gm M:Nat} {FP:Pro (Option Pr)} {GP:By→Pro (Option Pr)} {sh:Sf} {S:List Pr} (hl:sh.left=-1) (hF:FP.Reads) (hG:∀ k,(GP k).Reads) (hT:Strm FP GP sh S) (h1:gs<B) (h2:gm<B):Stay B gs gm M FP GP (Fls gs gm sh S):=
 ⟨fun _ _ W l _ o' h hl _ _=>⟨h.shs.ch (ch_putObj W l o') (by omega) (by omega),h.eq,h.n⟩,fun _ _ W o h=>⟨h.shs.ch (S:=fun _=>False) (Ch.alloc (Ch.refl _ W) o) id id,h.eq,h.n⟩,fun _ _ _ _ _ h _ hs _=>h.sto hl hF hG hT hs⟩
def FlI (w:World) (gs gm bn bb:Nat) (sh:Sf) (S:List Pr) (t:Ov) (pre:List (Pr × Int)) (A:World):Prop:=
 Fls gs gm sh S t pre A∧w.heap.size+2≤A.heap.size∧Ch (fun k=>k=gs∨k=gm∨k=bn∨k=bb) w A∧A.heap[bn]?=some (.cells #[.int .i64 pre.length] 3 (0,0))∧A.heap[bb]?=some (.cells #[.int .i64 (badN pre)] 3 (0,0))
theorem okP_len' (ps:List Pr) (n:Nat) (h:n≤ps.length):(okP (ps.take n)).length=n:=by rw [okP_len,List.length_take];omega
def erV:Value:=.tuple #[.agg #[.string ⟨#[]⟩,.string ⟨#[]⟩],.bool false,.int .i64 11]
section
variable {gs gm:Nat} {s:Sf} {w:World} {root:Int}
theorem from_down (h:s.left=0) (k:By) (past:Bool) (hS:ShIs w gs gm s):Calls Tryz.prog 34 #[shV gs,.int .i64 root,.string (mkS k),.bool past] w fun e w'=>e=.returned erV∧ShIs w' gs gm s∧Ch (fun k=>k=gs∨k=gm) w w':=by
 have:=wfrom_any k past root gs gm s w hS
 rw [seek_down h] at this
 exact this
theorem to_down (h:s.left=0) (k:By) (past:Bool) (hS:ShIs w gs gm s):Calls Tryz.prog 36 #[shV gs,.int .i64 root,.string (mkS k),.bool past] w fun e w'=>e=.returned erV∧ShIs w' gs gm s∧Ch (fun k=>k=gs∨k=gm) w w':=by
 have:=wto_any k past root gs gm s w hS
 rw [seek_down h] at this
 exact this
theorem last_down (h:s.left=0) (hS:ShIs w gs gm s):Calls Tryz.prog 38 #[shV gs,.int .i64 root] w fun e w'=>e=.returned erV∧ShIs w' gs gm s∧Ch (fun k=>k=gs∨k=gm) w w':=by
 have:=wlast_any root gs gm s w hS
 rw [seek_down h] at this
 exact this
end
theorem failsw_any (ks:List By) (at_:Int) (down:Bool) (kv:Value) (w:World) (hk:Sl sC 1 w kv ks):
  Calls Tryz.prog 10 #[kv,.int .i64 at_,.bool down] w fun e w'=>e=.returned (.bool true)∧Below w.heap.size w w':=by
 have HK:=Lib.hid hk
 clear hk
 refine calls_of_marks Tryz.func10 rfl ?_
 simp only [Tryz.ntmps10,List.size_toArray,List.length_cons,List.length_nil,Nat.reduceAdd,Nat.reduceSub,Array.replicate_succ,Array.replicate_zero,List.push_toArray,List.append_toArray,List.nil_append,List.cons_append]
 have HR1:=Lib.hid (show (w.alloc (.cells #[.bool false] 4)).heap[w.heap.size]?=some (.cells #[.bool false] 4 (0,0)) from blk_new rfl)
 have HB1:=Lib.hid (show Below w.heap.size w (w.alloc (.cells #[.bool false] 4)) from (Below.refl _ w).alloc (Nat.le_refl _) _)
 go_wp2_with fail
 generalize w.alloc (.cells #[.bool false] 4)=w1 at *
 refine (awake17_any w1).mono ?_
 rintro e w2 ⟨rfl,hb⟩
 have HR2:=Lib.hid (blk_keep HR1.out hb)
 have HB2:=Lib.hid (HB1.out.trans (hb.mono HB1.out.size))
 clear hb HR1
 go_wp2_with fail
 refine (laid_any ks false kv w2 (HK.out.keep HB2.out)).mono ?_
 rintro e w3 ⟨gs,gm,g,root,rfl,⟨s,hs,hts⟩,-,hn,hb⟩
 have HWT:=Lib.hid (laidP_wt false (ks.take 200))
 have HTL:=Lib.hid (show (ks.take 200).length≤200 by rw [List.length_take];omega)
 generalize laidP false (ks.take 200)=ps at *
 have HPL:=Lib.hid (show ps.length≤200∧wt ps≤600 by have:=HWT.out;have:=HTL.out;omega)
 have HTS:=Lib.hid hts
 have HS3:=Lib.hid hs
 have HR3:=Lib.hid (blk_keep HR2.out hb)
 have HB3:=Lib.hid (HB2.out.trans (hb.mono HB2.out.size))
 have HG2:=Lib.hid (show w.heap.size<gs∧w.heap.size<gm by have:=hn;have:=blk_lt HR2.out;omega)
 clear hs hts hn hb HWT HTL HR2
 go_upto_region 5 with fail
 obtain ⟨m,hm,hm1,hm4⟩:=mod_40 at_
 rw [hm]
 clear hm
 go_wp2_with fail
 refine (sArm_any (m:Int) gs gm s w3 HS3.out (by omega)).mono ?_
 rintro e w4 ⟨rfl,hs,hc⟩
 have HS4:=Lib.hid (show ShIs w4 gs gm { s with left:=(m:Int) - 1 } by rw [show max (m:Int) 0 - 1=(m:Int) - 1 by omega] at hs;exact hs)
 have HR4:=Lib.hid (hc.keep HR3.out (by have:=HG2.out;omega))
 have HB4:=Lib.hid (HB3.out.trans (hc.below HB3.out.size (fun k hk=>hk ▸ Nat.le_of_lt HG2.out.1)))
 clear hs hc HR3
 go_wp2_with fail
 refine (wup_any gs root [] [] w4).mono ?_
 rintro e w5 ⟨rfl,hup,hb5,hsz5⟩
 have HUP:=Lib.hid hup
 have HB5:=Lib.hid hb5
 have HSZ5:=Lib.hid hsz5
 clear hup hb5 hsz5
 unfold ovV
 have hfn:=func_nil
 cases down
 case false=>
  go_wp2_with fail
  have HN8:=Lib.hid (show ((w5.alloc (.cells #[.int .i64 0] 3)).alloc (.cells #[.int .i64 0] 3)).heap[w5.heap.size]?=some (.cells #[.int .i64 0] 3 (0,0)) from blk_alloc (blk_new rfl) _)
  have HD8:=Lib.hid (show ((w5.alloc (.cells #[.int .i64 0] 3)).alloc (.cells #[.int .i64 0] 3)).heap[w5.heap.size+1]?=some (.cells #[.int .i64 0] 3 (0,0)) from blk_new (by simp))
  have HC8:=Lib.hid (show Below w5.heap.size w5 ((w5.alloc (.cells #[.int .i64 0] 3)).alloc (.cells #[.int .i64 0] 3)) from ((Below.refl _ _).alloc (Nat.le_refl _) _).alloc (by simp) _)
  generalize (w5.alloc (.cells #[.int .i64 0] 3)).alloc (.cells #[.int .i64 0] 3)=w8 at *
  have HZ:=Lib.hid (show gs<w4.heap.size∧gm<w4.heap.size∧w5.heap.size=w4.heap.size+7∧w5.heap.size+2≤w8.heap.size∧w.heap.size<gs∧w.heap.size<gm from
   ⟨Nat.lt_of_lt_of_le (blk_lt HS4.out.blk) (Nat.le_refl _),Nat.lt_of_lt_of_le HS4.out.book.lt (Nat.le_refl _),HSZ5.out,by have:=blk_lt HD8.out;omega,HG2.out.1,HG2.out.2⟩)
  obtain ⟨bn,hbn⟩:∃ bn,w5.heap.size=bn:=⟨_,rfl⟩
  obtain ⟨bb,hbb⟩:∃ bb,bn+1=bb:=⟨_,rfl⟩
  have HBE:=Lib.hid (show w5.heap.size=bn∧bb=bn+1 from ⟨hbn,hbb.symm⟩)
  have HS8:=Lib.hid ((HS4.out.ch (S:=fun _=>False) (Ch.of_below HB5.out) id id).ch (S:=fun _=>False) (Ch.of_below HC8.out) id id)
  have HR8:=Lib.hid (blk_keep (blk_keep HR4.out HB5.out) HC8.out)
  have HB8:=Lib.hid (show Below w.heap.size w w8 from (HB4.out.trans (HB5.out.mono HB4.out.size)).trans (HC8.out.mono (Nat.le_trans HB4.out.size HB5.out.size)))
  have hup8:=HUP.out.same (W':=w8) (fun k h1 h2=>HC8.out.block k (by have:=HZ.out;omega))
  rw [hbn] at HN8
  rw [hbn,hbb] at HD8
  simp only [hbn]
  simp only [hbb]
  clear hbn hbb
  have hsq:=up_seq Fence.wide 8 (fun _=>trivial) rfl (by omega) (fun _ _ _ _ _ h=>callsIn_wide.2 h) gs gm 400 root [] [] w4.heap.size ⟨HZ.out.1,HZ.out.2.1⟩ w8 hup8 (by have:=HZ.out;omega)
  have HST:=Lib.hid (HTS.out.up (by have:=HPL.out;simp;omega) [])
  have HSL:=Lib.hid (show (upS ps []).length≤200 from Nat.le_trans (List.length_filter_le _ _) HPL.out.1)
  have HFR:(seekT (fromK [] false) 20 root).Reads:=(seekT_reads _ _ _)
  have hst:Stay w8.heap.size gs gm (w8.heap.size+2) (seekT (fromK [] false) 20 root) (fun k=>seekT (fromK k true) 20 root) (FlI w8 gs gm bn bb s (upS ps [])):=by
   have h1:=HZ.out
   have h2:=HBE.out
   exact (Stay.fls HTS.out.left HFR (fun k=>seekT_reads _ _ _) HST.out (by omega) (by omega)).and ((Stay.sz _).and ((Stay.ch (.inl rfl) (.inr (.inl rfl)) (Nat.le_refl _) (by omega)).and ((Stay.cell (F:=fun pre=>#[.int .i64 pre.length]) (by omega) (by omega) (by omega)).and (Stay.cell (F:=fun pre=>#[.int .i64 (badN pre)]) (by omega) (by omega) (by omega)))))
  have HSTY:=Lib.hid hst
  clear hst hup8 HFR
  refine range_pairs (i:=13) (j:=14) (I:=FlI w8 gs gm bn bb s (upS ps [])) (Ix:=fun _ _ _=>False) (s0:=⟨{ s with left:=(m:Int) - 1 },none,.err 0⟩)
   rfl hsq ?gs ?gm ?bb rfl HSTY.out.abide (fun _ _ _ _ _ _ h _ _ _=>h.elim) HSTY.out.sto (fun t pre A hi=>⟨hi.1.shs,by have:=hi.1.len;have:=HSL.out;omega,hi.2.1⟩) rfl ?al HSTY.out.alloc ?assign ?body ?done (fun _ _ _ _ _ h _=>h.elim)
  case gs=>have:=HZ.out;omega
  case gm=>have:=HZ.out;omega
  case bb=>have:=HZ.out;omega
  case al=>
   intro W hb hsz
   exact ⟨⟨HS8.out.ch (S:=fun _=>False) (Ch.of_below hb) id id,⟨(m:Int) - 1,by omega,rfl⟩,.inl ⟨0,Nat.zero_le _,rfl,.inl rfl⟩⟩,by omega,Ch.of_below hb,blk_keep HN8.out hb,blk_keep HD8.out hb⟩
  case assign=>
   rintro l ⟨⟨xk,xv⟩,xe⟩ W K hK
   unfold encO at hK ⊢
   simp at hK
   gi_wp2
   exact hK
  case body=>
   rintro l t pre x b W hl ⟨r,hr⟩ hi hgk hx hg hb
   have HI:=Lib.hid hi
   have HX:=Lib.hid hx
   have HGK:=Lib.hid hgk
   obtain ⟨n,hn,hpre,hxx⟩:=hi.1.x hx
   have hb0:badN pre=0:=by rw [hpre,badN_ok]
   have hpl:pre.length=n:=by rw [hpre];exact okP_len' _ _ hn
   obtain ⟨p0,p1,-,-,p4⟩:=pr_cells hb
   have n0:W.cell? ⟨bn,0,none⟩=some (.int .i64 pre.length):=blk_cell hi.2.2.2.1 0
   have n1:=blk_lt hi.2.2.2.1
   have n2:=blk_frozen hi.2.2.2.1 0
   have d0:W.cell? ⟨bb,0,none⟩=some (.int .i64 0):=by rw [blk_cell hi.2.2.2.2 0,hb0];rfl
   have d1:=blk_lt hi.2.2.2.2
   have d2:=blk_frozen hi.2.2.2.2 0
   have HB0:=Lib.hid hb0
   have hw1:IntKind.i64.wrap ((pre.length:Int)+1)=(pre.length:Int)+1:=IntWalk.i64_in _ (by have:=HSL.out;omega)
   have hw3:¬ (300:Int)<(pre.length:Int)+1:=by have:=HSL.out;omega
   have hne:¬ bn=bb:=by have:=HBE.out;omega
   have hnb:¬ b=bn:=by have:=HBE.out;have:=HZ.out;omega
   have hnb2:¬ bn=b:=fun e=>hnb e.symm
   clear hi hx hgk hb0 hpre hpl hn
   unfold encO
   rcases hxx with ⟨hnl,rfl⟩ | rfl
   case inl=>
    dsimp only at *
    generalize (upS ps [])[n]=q at *
    gi_wp2_with fail
    have hc:=((Ch.refl (fun k=>k=bn∨k=bb) W).setCell (p:=⟨bn,0,none⟩) (.inl rfl) (.int .i64 ((pre.length:Int)+1)))
    have hn2:(W.setCell ⟨bn,0,none⟩ (.int .i64 ((pre.length:Int)+1))).heap[bn]?=some (.cells #[.int .i64 ((pre ++ [(q,(0:Int))]).length)] 3 (0,0)):=by
     rw [show (((pre ++ [(q,(0:Int))]).length:Nat):Int)=(pre.length:Int)+1 by simp]
     exact set1 HI.out.2.2.2.1 _
    have hd2:(W.setCell ⟨bn,0,none⟩ (.int .i64 ((pre.length:Int)+1))).heap[bb]?=some (.cells #[.int .i64 (badN (pre ++ [(q,(0:Int))]))] 3 (0,0)):=by
     rw [badN_snoc,HB0.out]
     exact ((Ch.refl (fun k=>k=bn) W).setCell (p:=⟨bn,0,none⟩) rfl _).keep (by have:=HI.out.2.2.2.2;rw [HB0.out] at this;exact this) (fun e=>hne e.symm)
    refine ⟨keeps_ch hc ?_,⟨t.s,t.g,.err 0⟩,⟨rfl,hc.size,fun k hk hkl=>hc.block k hkl ?_⟩,HI.out.1.next HX.out (HI.out.1.shs.ch hc (by have:=HZ.out;have:=HBE.out;omega) (by have:=HZ.out;have:=HBE.out;omega)),Nat.le_trans HI.out.2.1 hc.size,HI.out.2.2.1.trans (hc.mono fun k _ e=>.inr (.inr e)),hn2,hd2⟩
    ·rintro k o - (rfl | rfl) ho
     ·rw [HI.out.2.2.2.1] at ho;injection ho with ho;subst ho;rfl
     ·rw [HI.out.2.2.2.2] at ho;injection ho with ho;subst ho;rfl
    ·have h1:=HZ.out
     have h2:=HBE.out
     rcases hk with hk | hk
     ·omega
     ·have:=(HGK.out _ hk).1;omega
   case inr=>
    have hz:(mkS []).toList=[]:=mkS_toList []
    unfold errP at *
    dsimp only at *
    gi_wp2_with fail
    have hc:=((Ch.refl (fun k=>k=bn∨k=bb) W).setCell (p:=⟨bn,0,none⟩) (.inl rfl) (.int .i64 ((pre.length:Int)+1))).setCell (p:=⟨bb,0,none⟩) (.inr rfl) (.int .i64 1)
    have hn2:((W.setCell ⟨bn,0,none⟩ (.int .i64 ((pre.length:Int)+1))).setCell ⟨bb,0,none⟩ (.int .i64 1)).heap[bn]?=some (.cells #[.int .i64 ((pre ++ [((([],[]),11):Pr × Int)]).length)] 3 (0,0)):=by
     rw [show (((pre ++ [((([],[]),11):Pr × Int)]).length:Nat):Int)=(pre.length:Int)+1 by simp]
     exact ((Ch.refl (fun k=>k=bb) (W.setCell ⟨bn,0,none⟩ (.int .i64 ((pre.length:Int)+1)))).setCell (p:=⟨bb,0,none⟩) rfl (.int .i64 1)).keep (set1 HI.out.2.2.2.1 _) hne
    have hd2:((W.setCell ⟨bn,0,none⟩ (.int .i64 ((pre.length:Int)+1))).setCell ⟨bb,0,none⟩ (.int .i64 1)).heap[bb]?=some (.cells #[.int .i64 (badN (pre ++ [((([],[]),11):Pr × Int)]))] 3 (0,0)):=by
     rw [badN_snoc,HB0.out]
     exact set1 (((Ch.refl (fun k=>k=bn) W).setCell (p:=⟨bn,0,none⟩) rfl (.int .i64 ((pre.length:Int)+1))).keep HI.out.2.2.2.2 (fun e=>hne e.symm)) _
    refine ⟨keeps_ch hc ?_,⟨t.s,t.g,.err 0⟩,⟨rfl,hc.size,fun k hk hkl=>hc.block k hkl ?_⟩,HI.out.1.next HX.out (HI.out.1.shs.ch hc (by have:=HZ.out;have:=HBE.out;omega) (by have:=HZ.out;have:=HBE.out;omega)),Nat.le_trans HI.out.2.1 hc.size,HI.out.2.2.1.trans (hc.mono fun k _ e=>.inr (.inr e)),hn2,hd2⟩
    ·rintro k o - (rfl | rfl) ho
     ·rw [HI.out.2.2.2.1] at ho;injection ho with ho;subst ho;rfl
     ·rw [HI.out.2.2.2.2] at ho;injection ho with ho;subst ho;rfl
    ·have h1:=HZ.out
     have h2:=HBE.out
     rcases hk with hk | hk
     ·omega
     ·have:=(HGK.out _ hk).1;omega
  case done=>
   rintro D t xs W hD hgk he hi hk
   obtain ⟨bl,hbl,hse⟩:=hi.1.eq
   have HK:=Lib.hid hk
   have HSW:=Lib.hid hi.1.shs
   have HCW:=Lib.hid hi.2.2.1
   have HRW:=Lib.hid (hi.2.2.1.keep HR8.out (by have:=HZ.out;have:=HBE.out;omega))
   clear hk hi he hgk
   go_wp2_with fail
   refine (sArm_any 1 gs gm t.s W HSW.out (by omega)).mono ?_
   rintro e w9 ⟨rfl,hs,hc⟩
   obtain ⟨sd,hsd⟩:∃ sd:Sf,sd={ t.s with left:=max 1 0 - 1 }:=⟨_,rfl⟩
   rw [← hsd] at hs
   have hdn:sd.left=0:=by rw [hsd];rfl
   have HS9:=Lib.hid hs
   have HDN9:=Lib.hid hdn
   have HC9:=Lib.hid (show Ch (fun k=>k=gs∨k=gm) W w9 from hc.mono fun _ _ e=>.inl e)
   clear hs hc hsd hdn hse
   go_wp2_with fail
   refine (from_down HDN9.out [] false HS9.out).mono ?_
   rintro e wa ⟨rfl,hs,hc⟩
   have HSA:=Lib.hid (show ShIs (wa.alloc (.cells #[.string ⟨#[]⟩,.string ⟨#[]⟩] 62)) gs gm sd from hs.ch (S:=fun _=>False) (Ch.alloc (Ch.refl _ wa) _) id id)
   have HCA:=Lib.hid (show Ch (fun k=>k=gs∨k=gm) W (wa.alloc (.cells #[.string ⟨#[]⟩,.string ⟨#[]⟩] 62)) from (HC9.out.trans hc).alloc _)
   clear hs hc
   unfold erV
   go_upto_region 23 with fail
   generalize wa.alloc (.cells #[.string ⟨#[]⟩,.string ⟨#[]⟩] 62)=wA at *
   go_wp2_with fail
   refine (to_down HDN9.out [120] false HSA.out).mono ?_
   rintro e wa ⟨rfl,hs,hc⟩
   have HSB:=Lib.hid (show ShIs (wa.alloc (.cells #[.string ⟨#[]⟩,.string ⟨#[]⟩] 62)) gs gm sd from hs.ch (S:=fun _=>False) (Ch.alloc (Ch.refl _ wa) _) id id)
   have HCB:=Lib.hid (show Ch (fun k=>k=gs∨k=gm) W (wa.alloc (.cells #[.string ⟨#[]⟩,.string ⟨#[]⟩] 62)) from (HCA.out.trans hc).alloc _)
   clear hs hc
   unfold erV
   go_upto_region 24 with fail
   generalize wa.alloc (.cells #[.string ⟨#[]⟩,.string ⟨#[]⟩] 62)=wB at *
   go_wp2_with fail
   refine (last_down HDN9.out HSB.out).mono ?_
   rintro e wa ⟨rfl,hs,hc⟩
   have HSC:=Lib.hid (show ShIs (wa.alloc (.cells #[.string ⟨#[]⟩,.string ⟨#[]⟩] 62)) gs gm sd from hs.ch (S:=fun _=>False) (Ch.alloc (Ch.refl _ wa) _) id id)
   have HCC:=Lib.hid (show Ch (fun k=>k=gs∨k=gm) W (wa.alloc (.cells #[.string ⟨#[]⟩,.string ⟨#[]⟩] 62)) from (HCB.out.trans hc).alloc _)
   clear hs hc
   unfold erV
   go_upto_region 25 with fail
   generalize wa.alloc (.cells #[.string ⟨#[]⟩,.string ⟨#[]⟩] 62)=wC at *
   have hcz:=HCC.out
   have x0:=hcz.keep HRW.out (by have:=HZ.out;omega)
   have r0:=blk_cell x0 0
   have r1:=blk_lt x0
   have r2:=blk_frozen x0 0
   have hk2:=hcz.keep HK.out (by have:=HZ.out;omega)
   have HX0:=Lib.hid x0
   have HK2:=Lib.hid hk2
   clear hcz x0 hk2
   go_wp2_with fail
   have hc1:=(Ch.refl (fun k=>k=w.heap.size) wC).setCell (p:=⟨w.heap.size,0,none⟩) rfl (.bool true)
   have hk3:=hc1.keep HK2.out (by have:=HZ.out;omega)
   have hc2:=ch_putObj (wC.setCell ⟨w.heap.size,0,none⟩ (.bool true)) D (.deferred none)
   have hz:=blk_cell (hc2.keep (set1 HX0.out (.bool true)) (by have:=HZ.out;omega)) 0
   have hb:=((((HCW.out.mono (S':=fun k=>w.heap.size≤k) (fun k _ e=>by have:=HZ.out;have:=HBE.out;omega)).trans (HCC.out.mono (fun k _ e=>by have:=HZ.out;omega))).trans (hc1.mono (fun k _ e=>by omega))).trans (hc2.mono (fun k _ e=>by have:=HZ.out;omega)))
   exact ret_marks (v:=.bool true) hk3 (by simp [results,Tryz.results10,go_sem,hz]) ⟨rfl,HB8.out.trans (hb.below HB8.out.size (fun k h=>h))⟩
 case true=>
  go_wp2_with fail
  refine (wdown_any gs root [] [] w5).mono ?_
  rintro e w6 ⟨rfl,hdn,hb6,hsz6⟩
  have HDN:=Lib.hid hdn
  have HB6:=Lib.hid (HB5.out.trans (hb6.mono HB5.out.size))
  have HSZ6:=Lib.hid hsz6
  clear hdn hb6 hsz6
  unfold ovV
  go_wp2_with fail
  have HN8:=Lib.hid (show ((w6.alloc (.cells #[.int .i64 0] 3)).alloc (.cells #[.int .i64 0] 3)).heap[w6.heap.size]?=some (.cells #[.int .i64 0] 3 (0,0)) from blk_alloc (blk_new rfl) _)
  have HD8:=Lib.hid (show ((w6.alloc (.cells #[.int .i64 0] 3)).alloc (.cells #[.int .i64 0] 3)).heap[w6.heap.size+1]?=some (.cells #[.int .i64 0] 3 (0,0)) from blk_new (by simp))
  have HC8:=Lib.hid (show Below w6.heap.size w6 ((w6.alloc (.cells #[.int .i64 0] 3)).alloc (.cells #[.int .i64 0] 3)) from ((Below.refl _ _).alloc (Nat.le_refl _) _).alloc (by simp) _)
  generalize (w6.alloc (.cells #[.int .i64 0] 3)).alloc (.cells #[.int .i64 0] 3)=w8 at *
  have HZ:=Lib.hid (show gs<w5.heap.size∧gm<w5.heap.size∧w6.heap.size=w5.heap.size+7∧w6.heap.size+2≤w8.heap.size∧w.heap.size<gs∧w.heap.size<gm from
   ⟨Nat.lt_of_lt_of_le (blk_lt HS4.out.blk) (HB5.out.size),Nat.lt_of_lt_of_le HS4.out.book.lt (HB5.out.size),HSZ6.out,by have:=blk_lt HD8.out;omega,HG2.out.1,HG2.out.2⟩)
  obtain ⟨bn,hbn⟩:∃ bn,w6.heap.size=bn:=⟨_,rfl⟩
  obtain ⟨bb,hbb⟩:∃ bb,bn+1=bb:=⟨_,rfl⟩
  have HBE:=Lib.hid (show w6.heap.size=bn∧bb=bn+1 from ⟨hbn,hbb.symm⟩)
  have HS8:=Lib.hid ((HS4.out.ch (S:=fun _=>False) (Ch.of_below HB6.out) id id).ch (S:=fun _=>False) (Ch.of_below HC8.out) id id)
  have HR8:=Lib.hid (blk_keep (blk_keep HR4.out HB6.out) HC8.out)
  have HB8:=Lib.hid (show Below w.heap.size w w8 from (HB4.out.trans (HB6.out.mono HB4.out.size)).trans (HC8.out.mono (Nat.le_trans HB4.out.size HB6.out.size)))
  have hup8:=HDN.out.same (W':=w8) (fun k h1 h2=>HC8.out.block k (by have:=HZ.out;omega))
  rw [hbn] at HN8
  rw [hbn,hbb] at HD8
  simp only [hbn]
  simp only [hbb]
  clear hbn hbb
  have hsq:=down_seq Fence.wide 8 (fun _=>trivial) rfl (by omega) (fun _ _ _ _ _ h=>callsIn_wide.2 h) gs gm 400 root [] [] w5.heap.size ⟨HZ.out.1,HZ.out.2.1⟩ w8 hup8 (by have:=HZ.out;omega)
  have HST:=Lib.hid (HTS.out.down (by have:=HPL.out;simp;omega) [])
  have HSL:=Lib.hid (show (downS ps []).length≤200 from Nat.le_trans (downS_len _ _) HPL.out.1)
  have HFR:(downF [] root).Reads:=(downF_reads _ _)
  have hst:Stay w8.heap.size gs gm (w8.heap.size+2) (downF [] root) (fun k=>seekT (toK k true) 20 root) (FlI w8 gs gm bn bb s (downS ps [])):=by
   have h1:=HZ.out
   have h2:=HBE.out
   exact (Stay.fls HTS.out.left HFR (fun k=>seekT_reads _ _ _) HST.out (by omega) (by omega)).and ((Stay.sz _).and ((Stay.ch (.inl rfl) (.inr (.inl rfl)) (Nat.le_refl _) (by omega)).and ((Stay.cell (F:=fun pre=>#[.int .i64 pre.length]) (by omega) (by omega) (by omega)).and (Stay.cell (F:=fun pre=>#[.int .i64 (badN pre)]) (by omega) (by omega) (by omega)))))
  have HSTY:=Lib.hid hst
  clear hst hup8 HFR
  refine range_pairs (i:=13) (j:=14) (I:=FlI w8 gs gm bn bb s (downS ps [])) (Ix:=fun _ _ _=>False) (s0:=⟨{ s with left:=(m:Int) - 1 },none,.err 0⟩)
   rfl hsq ?gs ?gm ?bb rfl HSTY.out.abide (fun _ _ _ _ _ _ h _ _ _=>h.elim) HSTY.out.sto (fun t pre A hi=>⟨hi.1.shs,by have:=hi.1.len;have:=HSL.out;omega,hi.2.1⟩) rfl ?al HSTY.out.alloc ?assign ?body ?done (fun _ _ _ _ _ h _=>h.elim)
  case gs=>have:=HZ.out;omega
  case gm=>have:=HZ.out;omega
  case bb=>have:=HZ.out;omega
  case al=>
   intro W hb hsz
   exact ⟨⟨HS8.out.ch (S:=fun _=>False) (Ch.of_below hb) id id,⟨(m:Int) - 1,by omega,rfl⟩,.inl ⟨0,Nat.zero_le _,rfl,.inl rfl⟩⟩,by omega,Ch.of_below hb,blk_keep HN8.out hb,blk_keep HD8.out hb⟩
  case assign=>
   rintro l ⟨⟨xk,xv⟩,xe⟩ W K hK
   unfold encO at hK ⊢
   simp at hK
   gi_wp2
   exact hK
  case body=>
   rintro l t pre x b W hl ⟨r,hr⟩ hi hgk hx hg hb
   have HI:=Lib.hid hi
   have HX:=Lib.hid hx
   have HGK:=Lib.hid hgk
   obtain ⟨n,hn,hpre,hxx⟩:=hi.1.x hx
   have hb0:badN pre=0:=by rw [hpre,badN_ok]
   have hpl:pre.length=n:=by rw [hpre];exact okP_len' _ _ hn
   obtain ⟨p0,p1,-,-,p4⟩:=pr_cells hb
   have n0:W.cell? ⟨bn,0,none⟩=some (.int .i64 pre.length):=blk_cell hi.2.2.2.1 0
   have n1:=blk_lt hi.2.2.2.1
   have n2:=blk_frozen hi.2.2.2.1 0
   have d0:W.cell? ⟨bb,0,none⟩=some (.int .i64 0):=by rw [blk_cell hi.2.2.2.2 0,hb0];rfl
   have d1:=blk_lt hi.2.2.2.2
   have d2:=blk_frozen hi.2.2.2.2 0
   have HB0:=Lib.hid hb0
   have hw1:IntKind.i64.wrap ((pre.length:Int)+1)=(pre.length:Int)+1:=IntWalk.i64_in _ (by have:=HSL.out;omega)
   have hw3:¬ (300:Int)<(pre.length:Int)+1:=by have:=HSL.out;omega
   have hne:¬ bn=bb:=by have:=HBE.out;omega
   have hnb:¬ b=bn:=by have:=HBE.out;have:=HZ.out;omega
   have hnb2:¬ bn=b:=fun e=>hnb e.symm
   clear hi hx hgk hb0 hpre hpl hn
   unfold encO
   rcases hxx with ⟨hnl,rfl⟩ | rfl
   case inl=>
    dsimp only at *
    generalize (downS ps [])[n]=q at *
    gi_wp2_with fail
    have hc:=((Ch.refl (fun k=>k=bn∨k=bb) W).setCell (p:=⟨bn,0,none⟩) (.inl rfl) (.int .i64 ((pre.length:Int)+1)))
    have hn2:(W.setCell ⟨bn,0,none⟩ (.int .i64 ((pre.length:Int)+1))).heap[bn]?=some (.cells #[.int .i64 ((pre ++ [(q,(0:Int))]).length)] 3 (0,0)):=by
     rw [show (((pre ++ [(q,(0:Int))]).length:Nat):Int)=(pre.length:Int)+1 by simp]
     exact set1 HI.out.2.2.2.1 _
    have hd2:(W.setCell ⟨bn,0,none⟩ (.int .i64 ((pre.length:Int)+1))).heap[bb]?=some (.cells #[.int .i64 (badN (pre ++ [(q,(0:Int))]))] 3 (0,0)):=by
     rw [badN_snoc,HB0.out]
     exact ((Ch.refl (fun k=>k=bn) W).setCell (p:=⟨bn,0,none⟩) rfl _).keep (by have:=HI.out.2.2.2.2;rw [HB0.out] at this;exact this) (fun e=>hne e.symm)
    refine ⟨keeps_ch hc ?_,⟨t.s,t.g,.err 0⟩,⟨rfl,hc.size,fun k hk hkl=>hc.block k hkl ?_⟩,HI.out.1.next HX.out (HI.out.1.shs.ch hc (by have:=HZ.out;have:=HBE.out;omega) (by have:=HZ.out;have:=HBE.out;omega)),Nat.le_trans HI.out.2.1 hc.size,HI.out.2.2.1.trans (hc.mono fun k _ e=>.inr (.inr e)),hn2,hd2⟩
    ·rintro k o - (rfl | rfl) ho
     ·rw [HI.out.2.2.2.1] at ho;injection ho with ho;subst ho;rfl
     ·rw [HI.out.2.2.2.2] at ho;injection ho with ho;subst ho;rfl
    ·have h1:=HZ.out
     have h2:=HBE.out
     rcases hk with hk | hk
     ·omega
     ·have:=(HGK.out _ hk).1;omega
   case inr=>
    have hz:(mkS []).toList=[]:=mkS_toList []
    unfold errP at *
    dsimp only at *
    gi_wp2_with fail
    have hc:=((Ch.refl (fun k=>k=bn∨k=bb) W).setCell (p:=⟨bn,0,none⟩) (.inl rfl) (.int .i64 ((pre.length:Int)+1))).setCell (p:=⟨bb,0,none⟩) (.inr rfl) (.int .i64 1)
    have hn2:((W.setCell ⟨bn,0,none⟩ (.int .i64 ((pre.length:Int)+1))).setCell ⟨bb,0,none⟩ (.int .i64 1)).heap[bn]?=some (.cells #[.int .i64 ((pre ++ [((([],[]),11):Pr × Int)]).length)] 3 (0,0)):=by
     rw [show (((pre ++ [((([],[]),11):Pr × Int)]).length:Nat):Int)=(pre.length:Int)+1 by simp]
     exact ((Ch.refl (fun k=>k=bb) (W.setCell ⟨bn,0,none⟩ (.int .i64 ((pre.length:Int)+1)))).setCell (p:=⟨bb,0,none⟩) rfl (.int .i64 1)).keep (set1 HI.out.2.2.2.1 _) hne
    have hd2:((W.setCell ⟨bn,0,none⟩ (.int .i64 ((pre.length:Int)+1))).setCell ⟨bb,0,none⟩ (.int .i64 1)).heap[bb]?=some (.cells #[.int .i64 (badN (pre ++ [((([],[]),11):Pr × Int)]))] 3 (0,0)):=by
     rw [badN_snoc,HB0.out]
     exact set1 (((Ch.refl (fun k=>k=bn) W).setCell (p:=⟨bn,0,none⟩) rfl (.int .i64 ((pre.length:Int)+1))).keep HI.out.2.2.2.2 (fun e=>hne e.symm)) _
    refine ⟨keeps_ch hc ?_,⟨t.s,t.g,.err 0⟩,⟨rfl,hc.size,fun k hk hkl=>hc.block k hkl ?_⟩,HI.out.1.next HX.out (HI.out.1.shs.ch hc (by have:=HZ.out;have:=HBE.out;omega) (by have:=HZ.out;have:=HBE.out;omega)),Nat.le_trans HI.out.2.1 hc.size,HI.out.2.2.1.trans (hc.mono fun k _ e=>.inr (.inr e)),hn2,hd2⟩
    ·rintro k o - (rfl | rfl) ho
     ·rw [HI.out.2.2.2.1] at ho;injection ho with ho;subst ho;rfl
     ·rw [HI.out.2.2.2.2] at ho;injection ho with ho;subst ho;rfl
    ·have h1:=HZ.out
     have h2:=HBE.out
     rcases hk with hk | hk
     ·omega
     ·have:=(HGK.out _ hk).1;omega
  case done=>
   rintro D t xs W hD hgk he hi hk
   obtain ⟨bl,hbl,hse⟩:=hi.1.eq
   have HK:=Lib.hid hk
   have HSW:=Lib.hid hi.1.shs
   have HCW:=Lib.hid hi.2.2.1
   have HRW:=Lib.hid (hi.2.2.1.keep HR8.out (by have:=HZ.out;have:=HBE.out;omega))
   clear hk hi he hgk
   go_wp2_with fail
   refine (sArm_any 1 gs gm t.s W HSW.out (by omega)).mono ?_
   rintro e w9 ⟨rfl,hs,hc⟩
   obtain ⟨sd,hsd⟩:∃ sd:Sf,sd={ t.s with left:=max 1 0 - 1 }:=⟨_,rfl⟩
   rw [← hsd] at hs
   have hdn:sd.left=0:=by rw [hsd];rfl
   have HS9:=Lib.hid hs
   have HDN9:=Lib.hid hdn
   have HC9:=Lib.hid (show Ch (fun k=>k=gs∨k=gm) W w9 from hc.mono fun _ _ e=>.inl e)
   clear hs hc hsd hdn hse
   go_wp2_with fail
   refine (from_down HDN9.out [] false HS9.out).mono ?_
   rintro e wa ⟨rfl,hs,hc⟩
   have HSA:=Lib.hid (show ShIs (wa.alloc (.cells #[.string ⟨#[]⟩,.string ⟨#[]⟩] 62)) gs gm sd from hs.ch (S:=fun _=>False) (Ch.alloc (Ch.refl _ wa) _) id id)
   have HCA:=Lib.hid (show Ch (fun k=>k=gs∨k=gm) W (wa.alloc (.cells #[.string ⟨#[]⟩,.string ⟨#[]⟩] 62)) from (HC9.out.trans hc).alloc _)
   clear hs hc
   unfold erV
   go_upto_region 23 with fail
   generalize wa.alloc (.cells #[.string ⟨#[]⟩,.string ⟨#[]⟩] 62)=wA at *
   go_wp2_with fail
   refine (to_down HDN9.out [120] false HSA.out).mono ?_
   rintro e wa ⟨rfl,hs,hc⟩
   have HSB:=Lib.hid (show ShIs (wa.alloc (.cells #[.string ⟨#[]⟩,.string ⟨#[]⟩] 62)) gs gm sd from hs.ch (S:=fun _=>False) (Ch.alloc (Ch.refl _ wa) _) id id)
   have HCB:=Lib.hid (show Ch (fun k=>k=gs∨k=gm) W (wa.alloc (.cells #[.string ⟨#[]⟩,.string ⟨#[]⟩] 62)) from (HCA.out.trans hc).alloc _)
   clear hs hc
   unfold erV
   go_upto_region 24 with fail
   generalize wa.alloc (.cells #[.string ⟨#[]⟩,.string ⟨#[]⟩] 62)=wB at *
   go_wp2_with fail
   refine (last_down HDN9.out HSB.out).mono ?_
   rintro e wa ⟨rfl,hs,hc⟩
   have HSC:=Lib.hid (show ShIs (wa.alloc (.cells #[.string ⟨#[]⟩,.string ⟨#[]⟩] 62)) gs gm sd from hs.ch (S:=fun _=>False) (Ch.alloc (Ch.refl _ wa) _) id id)
   have HCC:=Lib.hid (show Ch (fun k=>k=gs∨k=gm) W (wa.alloc (.cells #[.string ⟨#[]⟩,.string ⟨#[]⟩] 62)) from (HCB.out.trans hc).alloc _)
   clear hs hc
   unfold erV
   go_upto_region 25 with fail
   generalize wa.alloc (.cells #[.string ⟨#[]⟩,.string ⟨#[]⟩] 62)=wC at *
   have hcz:=HCC.out
   have x0:=hcz.keep HRW.out (by have:=HZ.out;omega)
   have r0:=blk_cell x0 0
   have r1:=blk_lt x0
   have r2:=blk_frozen x0 0
   have hk2:=hcz.keep HK.out (by have:=HZ.out;omega)
   have HX0:=Lib.hid x0
   have HK2:=Lib.hid hk2
   clear hcz x0 hk2
   go_wp2_with fail
   have hc1:=(Ch.refl (fun k=>k=w.heap.size) wC).setCell (p:=⟨w.heap.size,0,none⟩) rfl (.bool true)
   have hk3:=hc1.keep HK2.out (by have:=HZ.out;omega)
   have hc2:=ch_putObj (wC.setCell ⟨w.heap.size,0,none⟩ (.bool true)) D (.deferred none)
   have hz:=blk_cell (hc2.keep (set1 HX0.out (.bool true)) (by have:=HZ.out;omega)) 0
   have hb:=((((HCW.out.mono (S':=fun k=>w.heap.size≤k) (fun k _ e=>by have:=HZ.out;have:=HBE.out;omega)).trans (HCC.out.mono (fun k _ e=>by have:=HZ.out;omega))).trans (hc1.mono (fun k _ e=>by omega))).trans (hc2.mono (fun k _ e=>by have:=HZ.out;omega)))
   exact ret_marks (v:=.bool true) hk3 (by simp [results,Tryz.results10,go_sem,hz]) ⟨rfl,HB8.out.trans (hb.below HB8.out.size (fun k h=>h))⟩
end Go.Proofs.YtknioodagnjchaaGreatDoor
