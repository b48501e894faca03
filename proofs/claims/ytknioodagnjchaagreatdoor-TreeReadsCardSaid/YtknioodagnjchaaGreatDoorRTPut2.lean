/- tree: what Put does to a leaf. -/
import Derived.Test.YtknioodagnjchaaGreatDoorRTPut1
import Derived.BigRegion
set_option maxRecDepth 100000
set_option maxHeartbeats 8000000
namespace Go.Proofs.YtknioodagnjchaaGreatDoor
open Go.Lib (hid)
open Go.RowKit
theorem Own.blk_ty {α:Type} {f:α→List Value} {size:Nat} {e:TypeId} {base:Nat} {w:World} {v:Value} {xs:List α} (h:Own f size e base w v xs) {k:Nat} (hk:v.ownBlock=some k):∃ cur,w.heap[k]?=some (.cells cur e (0,0)):=by
 rcases h.2 with ⟨rfl,_⟩ | ⟨g,cap,cur,rfl,_,hg,_⟩
 ·cases hk
 ·have hk:some g=some k:=hk;injection hk with hk
  exact ⟨cur,hk ▸ hg⟩
theorem Lf.old {base gn:Nat} {n:Nd} {w w':World} (h:Lf base gn n w) (hb:Below w.heap.size w w') {v1 v2 v3:Value} (h':w'.heap[gn]?=some (ap n v1 v2 v3)):∀ k,v2.ownBlock=some k→k<w.heap.size:=by
 obtain ⟨vk,vc,vd,h0,h1,h2,h3,_⟩:=h.is;have e:=(ae h0 hb).symm.trans h';injection e with e
 injection e with e
 obtain ⟨-,e2,-⟩:=oC e;intro k hk;rw [← e2] at hk;exact (h2.lt k hk).2
structure CapP (base g1 g2 g3 gs gm:Nat) (k v:By) (w:World):Prop where
 c:Cap base g1 g2 gs gm k w
 v:w.heap[g3]?=some (.cells #[.string (al v)] 9 (0,0))
 l3:g3<base
 n5:g3≠gs
 n6:g3≠gm
theorem CapP.ch {base g1 g2 g3 gs gm:Nat} {k v:By} {w w':World} {S:Nat→Prop} (h:CapP base g1 g2 g3 gs gm k v w) (hc:Ch S w w') (h1:¬ S g1) (h2:¬ S g2) (h3:¬ S g3):CapP base g1 g2 g3 gs gm k v w':=⟨h.c.ch hc h1 h2,hc.keep h.v h3,h.l3,h.n5,h.n6⟩
theorem CapP.mono {base base' g1 g2 g3 gs gm:Nat} {k v:By} {w:World} (h:CapP base g1 g2 g3 gs gm k v w) (hb:base≤base'):CapP base' g1 g2 g3 gs gm k v w:=⟨h.c.mono hb,h.v,Nat.lt_of_lt_of_le h.l3 hb,h.n5,h.n6⟩
theorem ob {k v:By} {n:Nd} {c:Ce} (h:fO n.keys k=true) (hc:n.cells.getD (bB n.keys k) ⟨0,[],0⟩=c):aH k v n=(cf c).bind fun _=>(cH v).bind fun c=>.pure (some { n with cells:=n.cells.set (bB n.keys k) c }):=by unfold aH;rw [h,hc];rfl
theorem mL {k v:By} {n:Nd} (h:fO n.keys k=false):aH k v n=(cH v).bind fun c=>.pure (some { n with keys:=n.keys.insertIdx (bB n.keys k) k,cells:=n.cells.insertIdx (bB n.keys k) c }):=by unfold aH;rw [h];rfl
theorem qL (n:Nd) (k vl:By) (base g1 g2 g3 gs gm gn:Nat) (s:Sf) (w:World) (hS:ShIs w gs gm s) (hC:CapP base g1 g2 g3 gs gm k vl w) (hL:Lf base gn n w) (hg:aB n=true) (hl:n.leaf=true) (hn:n.Sm 230)
  (hk:k.length≤64) (hv:vl.length≤1000000) (h1:gs<base) (h2:gm<base) (h3:base≤gn):
  Calls Tryz.prog 68 #[.pointer (some ⟨gn,0,none⟩),.pointer (some ⟨g1,0,none⟩),.pointer (some ⟨g2,0,none⟩),.pointer (some ⟨g3,0,none⟩)] w fun e w'=>DoP base gn w' e ((aH k vl n).run s).2∧ShIs w' gs gm ((aH k vl n).run s).1∧Ch (gK base gs gm) w w':=by
 have HS:=hid hS;have HC:=hid hC;have HL:=hid hL;have HSN:=hid hn;have HFT:=hid (cB hg);have hkk:=hn.k;have hkc:=hn.c;have hgn:=hL.lt;have HLE:=hid (oT n k);have HIL:=hid (fun (h:fO n.keys k=true)=>sO h (cB hg) hl);obtain ⟨A1,c1,A2,c2,A3,c3,e0,e1,e2,e3,-⟩:=hL.forms;have HFI:=hid (fun (y:Up w)=>iB n k _ y.w ((NdV.of_own e1 e2 e3).keep y.h) (hn.bd (by decide)) hg);have HLF:=hid hl;have HCL:=hid ((cB hg).c hl).1;have a0:=aU (ac e0 0) hgn;have a1:=aU (ac e0 1) hgn;have a2:=aU (ac e0 2) hgn;have a3:=aU (ac e0 3) hgn;have hl1:=aj hC.c.k;have b1:=aU (ac hC.c.k 0) hl1;clear e0 e1 e2 e3 hS hC hL hn hl hg;go_enter Tryz.func68,Tryz.ntmps68;go_wp2_with fail;refine aJ (by kernel_rfl) (by kernel_rfl) ?_
 repeat (go_big_quiet_step (first | (go_at_call 60;exact eg (HFI.out _))))
 refine wpQuiet_nil ?_;rintro w2 ⟨⟨_,hb⟩,rfl⟩;have HS2:=hid (HS.out.ch (S:=fun _=>False) (Ch.of_below hb) id id);have HL2:=hid (HL.out.keep hb);have HC2:=hid (HC.out.ch (S:=fun _=>False) (Ch.of_below hb) id id id);have HH2:=hid (show Ch (gK base gs gm) w w2 from Ch.of_below hb);clear hb a0 a1 a2 a3 b1 hl1 HFI;have hle:=HLE.out;cases his:fO n.keys k
 ·have HV:=hid (mL (v:=vl) his);clear HIL HLE his;generalize bB n.keys k=i at *;have b2:=ac HC2.out.c.p 0;have hl2:=aj HC2.out.c.p;have b3:=ac HC2.out.v 0;have hl3:=aj HC2.out.v;have HCE:=hid (nD vl gs gm s w2 HS2.out (by omega));unfold bV at HCE b2;go_wp2_with fail;refine HCE.out.mono ?_;rintro e wq ⟨rfl,hs,hc⟩;have HSc:=hid hs;have HLc:=hid (HL2.out.ch hc (fun k hk e=>by omega) (by omega));have HCc:=hid (HC2.out.ch hc (fun e=>e.elim HC2.out.c.n1 HC2.out.c.n2) (fun e=>e.elim HC2.out.c.n3 HC2.out.c.n4) (fun e=>e.elim HC2.out.n5 HC2.out.n6));have HHc:=hid (HH2.out.trans (hc.mono (S':=gK base gs gm) (fun _ _ e=>e.elim .inl (fun e=>.inr (.inl e)))));clear hs hc b2 hl2 b3 hl3 HCE;have hnzc:=Pro.NZ.run (cH vl) s;have hdat:∀ {s':Sf} {c:Ce},(cH vl).run s=(s',.ok c)→c.data.length≤40:=kB;obtain ⟨⟨s6,a⟩,hx⟩:∃ x,(cH vl).run s=x:=⟨_,rfl⟩;rw [hx] at HSc hnzc hdat ⊢;have HXC:=hid hx;clear hx;rcases a with c | x
  case err=>
   have hx0:¬ x=0:=hnzc x (iG _) rfl;have hx1:(x == 0)=false:=by simpa using hx0
   have HW:=hid (show (aH k vl n).run s=(s6,.err x) from by rw [HV.out];exact ak HXC.out);simp only [rG,jj];have HB:=hid (show Below wq.heap.size wq (wq.alloc (cF ⟨0,[],0⟩)) from (Below.refl _ wq).alloc (Nat.le_refl _) _);have HLd:=hid (HLc.out.keep HB.out);have HSd:=hid (HSc.out.ch (S:=fun _=>False) (Ch.of_below HB.out) id id);have HHd:=hid (HHc.out.trans (Ch.of_below (S:=gK base gs gm) HB.out));go_wp2_with fail;go_ret2;rw [HW.out];exact ⟨⟨rfl,HLd.out.any⟩,HSd.out,HHd.out⟩
  have HCD:=hid (hdat rfl);have hnzc2:=hnzc;clear hnzc hdat hnzc2;simp only [rG,jj];have HB:=hid (show Below wq.heap.size wq (wq.alloc (cF c)) from (Below.refl _ wq).alloc (Nat.le_refl _) _);have HCB:=hid (ag (w0:=wq) (g:=wq.heap.size) (o:=cF c) rfl);go_upto_region 7 with fail
  generalize hw1:wq.alloc (.cells #[.int .i64 c.size,.string (al c.data),.int .i64 c.page] 119)=wd at *;have hw2:wq.alloc (cF c)=wd:=hw1;rw [hw2] at HB HCB;clear hw1 hw2;have HLd:=hid (HLc.out.keep HB.out);have HSd:=hid (HSc.out.ch (S:=fun _=>False) (Ch.of_below HB.out) id id);have HCd:=hid (HCc.out.ch (S:=fun _=>False) (Ch.of_below HB.out) id id id);have HHd:=hid (HHc.out.trans (Ch.of_below (S:=gK base gs gm) HB.out));have hszd:=HB.out.size;have hszc:=HHc.out.size;have HLO:=hid (fun (v1 v2 v3:Value) (h':wd.heap[gn]?=some (ap n v1 v2 v3))=>HLc.out.old HB.out h');clear HLc HSc HCc HHc;have HW:=hid (show (aH k vl n).run s=(s6,.ok (some { n with keys:=n.keys.insertIdx i k,cells:=n.cells.insertIdx i c })) by rw [HV.out];exact af HXC.out);obtain ⟨A1,c1,A2,c2,A3,c3,e0,e1,e2,e3,d1,d2,d3,x1,x2,x3⟩:=HLd.out.forms;have H0:=hid e0;have HO2:=hid e2;have HO3:=hid e3;have HD1:=hid d1;have HD2:=hid d2;have HD3:=hid d3;have HX1:=hid x1;have HX2:=hid x2;have HX3:=hid x3;have hgd:=HLd.out.lt;have HOL:=hid (fun k hk=>(e1.lt k hk).1)
  have HRC:=hid (show ∀ k,(Value.slice A1 n.keys.length c1).ownBlock=some k→k≠wq.heap.size from fun k hk e=>by
   obtain ⟨cur,hcur⟩:=e1.blk_ty hk;rw [e,HCB.out] at hcur;injection hcur with hcur
   injection hcur with _ ht
   exact absurd ht (by decide))
  have HOA:=hid (Own.drew (e1.alloc (.cells #[.string (al k)] 9)));have HVB:=hid (show (wd.alloc (.cells #[.string (al k)] 9)).drew.heap[wd.heap.size]?=some (.cells (sC k).toArray 9 (0,0)) from ag rfl);have HNE:=hid (show (Value.slice A1 n.keys.length c1).ownBlock≠some wd.heap.size from fun e=>by have:=(e1.lt _ e).2;omega);have HIN:=hid (m8 n.keys i k base wd.heap.size 1 (.slice A1 n.keys.length c1) 9 (wd.alloc (.cells #[.string (al k)] 9)).drew HOA.out hle (by show base≤(wd.alloc (.cells #[.string (al k)] 9)).heap.size;simp;omega) (by omega) HVB.out HNE.out);have HBW:=hid (show Below wd.heap.size wd (wd.alloc (.cells #[.string (al k)] 9)).drew from ((Below.refl _ wd).alloc (Nat.le_refl _) _).drew);have hs1:(wd.alloc (.cells #[.string (al k)] 9)).drew.heap.size=wd.heap.size+1:=(by simp);have hs2:(wd.alloc (.cells #[.string (al k)] 9)).heap.size=wd.heap.size+1:=(by simp);obtain ⟨n0,n1,n2,n3,n4⟩:=aa e0;have fn:=ab e0;have b1:=ac HCd.out.c.k 0;have hl1:=aj HCd.out.c.k;clear e0 e1 e2 e3 d1 d2 d3 x1 x2 x3 HOA HVB HNE;have hi0:(0:Int)≤(i:Int):=by omega
  go_wp2_with fail
  go_cut [] from 50 to 60 (fun we=>∃ (E1:Option Addr) (e1:Nat),we.heap[gn]?=some (ap n (.slice E1 (n.keys.insertIdx i k).length e1) (.slice A2 n.cells.length c2) (.slice A3 n.kids.length c3))∧
   Own sC 1 9 base we (.slice E1 (n.keys.insertIdx i k).length e1) (n.keys.insertIdx i k)∧Own cC 3 119 base we (.slice A2 n.cells.length c2) n.cells∧Own iC 1 3 base we (.slice A3 n.kids.length c3) n.kids∧
   Dis (.slice E1 (n.keys.insertIdx i k).length e1) (.slice A2 n.cells.length c2)∧Dis (.slice E1 (n.keys.insertIdx i k).length e1) (.slice A3 n.kids.length c3)∧Ne (.slice E1 (n.keys.insertIdx i k).length e1) gn∧Ch (fun k=>base≤k) wd we∧we.heap[wq.heap.size]?=some (cF c))
  case first=>
   go_region_law (first
    | (go_simp
       go_at_call 71;refine HIN.out.mono ?_;rintro e we ⟨v',rfl,ho,hg,hat⟩;have HGR:=hid hg;have HOW:=hid ho;have HAT:=hid hat;obtain ⟨E1,e1,rfl⟩:=ho.form;have HNW:=hid (show we.heap[gn]?=_ from (hg.block gn (by rw [hs1];omega) (fun e=>HX1.out gn e.symm rfl)).trans (ae H0.out HBW.out));obtain ⟨m0,m1,m2,m3,m4⟩:=aa HNW.out;have fm:=ab HNW.out;clear ho hg hat))
   all_goals
    go_wp2_with fail;go_meet
    case rel=>
     have hc:=(Ch.refl (fun k=>k=gn) we).setCell (p:=⟨gn,1,none⟩) rfl (.slice E1 (n.keys.insertIdx i k).length e1);have hat:=HAT.out
     have hne:Ne (.slice E1 (n.keys.insertIdx i k).length e1) gn:=fun q hq e=>by
      rcases hat with h | h
      ·exact HX1.out q (h.symm.trans hq) e
      ·rw [h] at hq;injection hq with hq
       omega
     exact ⟨E1,e1,ah HNW.out 1 _,HOW.out.ch hc hne,((Own.drew (HO2.out.alloc _)).dis HGR.out HD1.out.symm).ch hc HX2.out,((Own.drew (HO3.out.alloc _)).dis HGR.out HD2.out.symm).ch hc HX3.out,
      HD1.out.app hat (Own.drew (HO2.out.alloc _)),HD2.out.app hat (Own.drew (HO3.out.alloc _)),hne,
      ((Ch.of_below (S:=fun k=>base≤k) HBW.out).trans (Ch.of_grown HGR.out (fun q e=>HOL.out q e))).trans (hc.mono (fun q _ e=>by omega)),
      hc.keep ((HGR.out.block wq.heap.size (by rw [hs1];omega) (fun e=>HRC.out _ e.symm rfl)).trans (ae HCB.out HBW.out)) (by omega)⟩
  case rest=>
  obtain ⟨E1,e1,f0,f1,f2,f3,d1,d2,x1,hcw,hcb⟩:=hcut;have HWD:=hid hcw;have H0:=hid f0;have HO1:=hid f1;have HO3:=hid f3;have HD1:=hid d1;have HD2:=hid d2;have HX1:=hid x1;have hgw:=aj f0;have hsw:=hcw.size;have hlc2:i≤n.cells.length:=by have:=HCL.out;omega
  have HOL:=hid (fun k hk=>(f2.lt k hk).1);have HOA:=hid (Own.drew (f2.alloc (cF c)));have HVB:=hid (show (wc.alloc (cF c)).drew.heap[wc.heap.size]?=some (.cells (cC c).toArray 119 (0,0)) from ag rfl);have HNE:=hid (show (Value.slice A2 n.cells.length c2).ownBlock≠some wc.heap.size from fun e=>by have:=(f2.lt _ e).2;omega);have HIN:=hid (re n.cells i c base wc.heap.size 1 (.slice A2 n.cells.length c2) 119 (wc.alloc (cF c)).drew HOA.out hlc2 (by show base≤(wc.alloc (cF c)).heap.size;simp;omega) (by omega) HVB.out HNE.out);have HBW:=hid (show Below wc.heap.size wc (wc.alloc (cF c)).drew from ((Below.refl _ wc).alloc (Nat.le_refl _) _).drew);have hs1:(wc.alloc (cF c)).drew.heap.size=wc.heap.size+1:=(by simp);clear n0 n1 n2 n3 n4 fn b1 hl1;obtain ⟨n0,n1,n2,n3,n4⟩:=aa f0;obtain ⟨p0,p1,p2,p3,p4,p5,p6⟩:=aF hcb;clear f0 f1 f2 f3 d1 d2 x1 HOA HVB HNE hcb hcw;go_wp2_with fail;go_region_law (first
   | (go_simp
      go_at_call 72;refine HIN.out.mono ?_;rintro e wf ⟨v',rfl,ho,hg,hat⟩;have HGR:=hid hg;have HOW:=hid ho;have HAT:=hid hat;obtain ⟨E2,e2,rfl⟩:=ho.form;have HNW:=hid (show wf.heap[gn]?=_ from (hg.block gn (by rw [hs1];omega) (fun e=>HX2.out gn e.symm rfl)).trans (ae H0.out HBW.out));obtain ⟨m0,m1,m2,m3,m4⟩:=aa HNW.out;have fm:=ab HNW.out;clear ho hg hat))
  all_goals
   go_wp2_with fail;go_ret2;rw [HW.out];have hc:=(Ch.refl (fun k=>k=gn) wf).setCell (p:=⟨gn,2,none⟩) rfl (.slice E2 (n.cells.insertIdx i c).length e2);have hat:=HAT.out
   have hne:Ne (.slice E2 (n.cells.insertIdx i c).length e2) gn:=fun q hq e=>by
    rcases hat with h | h
    ·exact HX2.out q (h.symm.trans hq) e
    ·rw [h] at hq;injection hq with hq
     omega
   have hcg:Ch (fun k=>base≤k) wc _:=((Ch.of_below (S:=fun k=>base≤k) HBW.out).trans (Ch.of_grown HGR.out (fun q e=>HOL.out q e))).trans (hc.mono (fun q _ e=>by omega));refine ⟨⟨rfl,⟨⟨_,_,_,ah HNW.out 2 _,((Own.drew (HO1.out.alloc _)).dis HGR.out HD1.out).ch hc HX1.out,HOW.out.ch hc hne,((Own.drew (HO3.out.alloc _)).dis HGR.out HD3.out.symm).ch hc HX3.out,
    (HD1.out.symm.app hat (Own.drew (HO1.out.alloc _))).symm,HD2.out,HD3.out.app hat (Own.drew (HO3.out.alloc _)),HX1.out,hne,HX3.out⟩⟩,sZ HSN.out hk HCD.out hle hlc2,rR HFT.out HLF.out hle⟩,
    (HSd.out.ch HWD.out (by omega) (by omega)).ch hcg (by omega) (by omega),(HHd.out.trans (HWD.out.mono (fun q _ e=>.inr (.inr e)))).trans (hcg.mono (fun q _ e=>.inr (.inr e)))⟩
 ·obtain ⟨hlk,hlc⟩:=HIL.out his;obtain ⟨c0,hcc⟩:∃ c,n.cells[bB n.keys k]=c:=⟨_,rfl⟩;have HV:=hid (ob (v:=vl) his (show n.cells.getD (bB n.keys k) ⟨0,[],0⟩=c0 by rw [List.getD_eq_getElem?_getD,List.getElem?_eq_getElem hlc,hcc];rfl));have hcl:c0.data.length≤40:=by rw [← hcc];exact HSN.out.cl _ (List.getElem_mem hlc)
  have HCC:=hid hcc;clear HIL HLE his hcc;generalize bB n.keys k=i at *;obtain ⟨A1,c1,A2,c2,A3,c3,e0,e1,e2,e3,d1,d2,d3,x1,x2,x3⟩:=HL2.out.forms;obtain ⟨gc,c2',ee,hgc,hgc'⟩:=e2.form2 (by intro e;rw [e] at hlc;simp at hlc);injection ee with y1 y2 y3
  subst y1 y3;clear y2;obtain ⟨b,off,he,hbl,hn',f0,f1,f2⟩:=(e2.sl bu).cell3 hlc;injection he with he
  injection he with he he2
  subst he he2;rw [HCC.out,Nat.zero_add] at f0 f1 f2;obtain ⟨n0,n1,n2,n3,n4⟩:=aa e0;have b2:=ac HC2.out.c.p 0;have hl2:=aj HC2.out.c.p;have hi0:(0:Int)≤(i:Int):=by omega
  have hi1:(i:Int)<(n.cells.length:Int):=by omega
  clear e0 e1 e2 e3 d1 d2 d3 x1 x2 x3 hn';have HCF:=hid (lG c0 gs gm s w2.drew (HS2.out.ch (S:=fun _=>False) (Ch.refl _ w2).drew id id) (by omega));unfold jj bV at HCF;unfold bV at b2;go_upto_if 20 with fail
  go_wp2_with fail;go_cut [9] from 21 to 31 (fun ev wc=>ev=dj ((cf c0).run s).2∧ShIs wc gs gm ((cf c0).run s).1∧Ch (fun k=>k=gs∨k=gm) w2 wc)
  case first=>
   go_region_law (first
    | (go_simp
       go_at_call 69;refine HCF.out.mono ?_;rintro e w5 ⟨rfl,hs,hc⟩;have HS5:=hid hs;have HH5:=hid ((Ch.refl _ w2).drew.trans hc);clear hs hc))
   all_goals
    go_wp2_with fail;go_meet
    case rel=>exact ⟨rfl,HS5.out,HH5.out⟩
  case rest=>
  obtain ⟨rfl,hs5,hh5⟩:=hcut;have HS5:=hid hs5;have HL5:=hid (HL2.out.ch hh5 (fun k hk e=>by omega) (by omega));have HC5:=hid (HC2.out.ch hh5 (fun e=>e.elim HC2.out.c.n1 HC2.out.c.n2) (fun e=>e.elim HC2.out.c.n3 HC2.out.c.n4) (fun e=>e.elim HC2.out.n5 HC2.out.n6));have HH5:=hid (HH2.out.trans (hh5.mono (S':=gK base gs gm) (fun _ _ e=>e.elim .inl (fun e=>.inr (.inl e)))));clear hs5 hh5 n0 n1 n2 n3 n4 f0 f1 f2 b2 hl2 HCF;have hnz:=Pro.NZ.run (cf c0) s;obtain ⟨⟨s5,a⟩,hx⟩:∃ x,(cf c0).run s=x:=⟨_,rfl⟩;rw [hx] at HS5 hnz ⊢;rcases a with u | x
  case err=>
   have hx0:¬ x=0:=hnz x (gT _) rfl;have hx1:(x == 0)=false:=by simpa using hx0
   have HW:=hid (show (aH k vl n).run s=(s5,.err x) by rw [HV.out];exact ak hx);simp only [dj];go_wp2_with fail;go_ret2;rw [HW.out];exact ⟨⟨rfl,HL5.out.any⟩,HS5.out,HH5.out⟩
  have HRV:=hid (show (aH k vl n).run s=((cH vl).bind fun c=>.pure (some { n with cells:=n.cells.set i c })).run s5 by rw [HV.out];exact af hx);simp only [dj];clear hnz hx;have b2:=ac HC5.out.c.p 0;have hl2:=aj HC5.out.c.p;have b3:=ac HC5.out.v 0;have hl3:=aj HC5.out.v;have HCE:=hid (nD vl gs gm s5 wc HS5.out (by omega));unfold bV at HCE b2;go_wp2_with fail;refine HCE.out.mono ?_;rintro e wq ⟨rfl,hs,hc⟩;have HSc:=hid hs;have HLc:=hid (HL5.out.ch hc (fun k hk e=>by omega) (by omega));have HCc:=hid (HC5.out.ch hc (fun e=>e.elim HC5.out.c.n1 HC5.out.c.n2) (fun e=>e.elim HC5.out.c.n3 HC5.out.c.n4) (fun e=>e.elim HC5.out.n5 HC5.out.n6));have HHc:=hid (HH5.out.trans (hc.mono (S':=gK base gs gm) (fun _ _ e=>e.elim .inl (fun e=>.inr (.inl e)))));clear hs hc b2 hl2 b3 hl3 HCE;have hnzc:=Pro.NZ.run (cH vl) s5;have hdat:∀ {s':Sf} {c:Ce},(cH vl).run s5=(s',.ok c)→c.data.length≤40:=kB;obtain ⟨⟨s6,a⟩,hx⟩:∃ x,(cH vl).run s5=x:=⟨_,rfl⟩;rw [hx] at HSc hnzc hdat ⊢;have HXC:=hid hx;clear hx;rcases a with c | x
  case err=>
   have hx0:¬ x=0:=hnzc x (iG _) rfl;have hx1:(x == 0)=false:=by simpa using hx0
   have HW:=hid (show (aH k vl n).run s=(s6,.err x) from by rw [HRV.out];exact ak HXC.out);simp only [rG,jj];have HB:=hid (show Below wq.heap.size wq (wq.alloc (cF ⟨0,[],0⟩)) from (Below.refl _ wq).alloc (Nat.le_refl _) _);have HLd:=hid (HLc.out.keep HB.out);have HSd:=hid (HSc.out.ch (S:=fun _=>False) (Ch.of_below HB.out) id id);have HHd:=hid (HHc.out.trans (Ch.of_below (S:=gK base gs gm) HB.out));go_wp2_with fail;go_ret2;rw [HW.out];exact ⟨⟨rfl,HLd.out.any⟩,HSd.out,HHd.out⟩
  have HCD:=hid (hdat rfl);have hnzc2:=hnzc;clear hnzc hdat hnzc2;simp only [rG,jj];have HB:=hid (show Below wq.heap.size wq (wq.alloc (cF c)) from (Below.refl _ wq).alloc (Nat.le_refl _) _);have HCB:=hid (ag (w0:=wq) (g:=wq.heap.size) (o:=cF c) rfl);go_upto_region 7 with fail
  generalize hw1:wq.alloc (.cells #[.int .i64 c.size,.string (al c.data),.int .i64 c.page] 119)=wd at *;have hw2:wq.alloc (cF c)=wd:=hw1;rw [hw2] at HB HCB;clear hw1 hw2;have HLd:=hid (HLc.out.keep HB.out);have HSd:=hid (HSc.out.ch (S:=fun _=>False) (Ch.of_below HB.out) id id);have HCd:=hid (HCc.out.ch (S:=fun _=>False) (Ch.of_below HB.out) id id id);have HHd:=hid (HHc.out.trans (Ch.of_below (S:=gK base gs gm) HB.out));have hszd:=HB.out.size;have hszc:=HHc.out.size;have HLO:=hid (fun (v1 v2 v3:Value) (h':wd.heap[gn]?=some (ap n v1 v2 v3))=>HLc.out.old HB.out h');clear HLc HSc HCc HHc;have HW:=hid (show (aH k vl n).run s=(s6,.ok (some { n with cells:=n.cells.set i c })) by rw [HRV.out];exact af HXC.out);obtain ⟨A1,c1,A2,c2,A3,c3,e0,e1,e2,e3,d1,d2,d3,x1,x2,x3⟩:=HLd.out.forms;obtain ⟨gc,c2',ee,hgc,hgc'⟩:=e2.form2 (by intro e;rw [e] at hlc;simp at hlc);injection ee with y1 y2 y3
  subst y1 y3;clear y2;have HOS:=hid (e2.set bu hlc c);have hgd:=HLd.out.lt;have H0:=hid e0;have HO1:=hid e1;have HO3:=hid e3;have HD1:=hid d1;have HD2:=hid d2;have HD3:=hid d3;have HX1:=hid x1;have HX3:=hid x3;have hcn:gc≠gn:=x2 gc rfl;obtain ⟨cur,hg8,hcz⟩:∃ cur:Array Value,wd.heap[gc]?=some (.cells cur 119 (0,0))∧n.cells.length * 3≤cur.size:=by
   rcases e2.2 with ⟨hv,_⟩ | ⟨g',cap,cur,hv,_,hg,hnc,hm,hc,ht⟩
   ·cases hv
   ·injection hv with e1 e2 e3
    injection e1 with e1
    injection e1 with e1
    subst e1;exact ⟨cur,hg,by rw [hc];exact Nat.mul_le_mul_right _ hnc⟩
  have HG8:=hid hg8;have f0:wd.cell? ⟨gc,i * 3,none⟩=some (cur[i * 3]'(by omega)):=by rw [ac hg8,Array.getElem?_eq_getElem (by omega)]
  have f1:wd.cell? ⟨gc,i * 3+1,none⟩=some (cur[i * 3+1]'(by omega)):=by rw [ac hg8,Array.getElem?_eq_getElem (by omega)]
  have f2:wd.cell? ⟨gc,i * 3+2,none⟩=some (cur[i * 3+2]'(by omega)):=by rw [ac hg8,Array.getElem?_eq_getElem (by omega)]
  have z0:=ab hg8 (i * 3);have z1:=ab hg8 (i * 3+1);have z2:=ab hg8 (i * 3+2);obtain ⟨n0,n1,n2,n3,n4⟩:=aa e0;obtain ⟨p0,p1,p2,p3,p4,p5,p6⟩:=aF HCB.out;have hcq:¬ (gc=wq.heap.size):=by have:=HLO.out _ _ _ H0.out gc rfl;omega
  have hcq':¬ (wq.heap.size=gc):=fun e=>hcq e.symm
  have hcn':¬ (gn=gc):=fun e=>hcn e.symm
  clear e0 e1 e2 e3 d1 d2 d3 x1 x2 x3 hg8;go_wp2_with fail;go_region;have hc:=cD (g:=gc) (cC c) (i * 3) wd;have hos:Own cC 3 119 base (((wd.setCell ⟨gc,i * 3,none⟩ (.int .i64 c.size)).setCell ⟨gc,i * 3+1,none⟩ (.string (al c.data))).setCell ⟨gc,i * 3+2,none⟩ (.int .i64 c.page)) (.slice (some ⟨gc,0,none⟩) n.cells.length c2) (n.cells.set i c):=HOS.out;have hc2:Ch (fun k=>k=gc) wd (((wd.setCell ⟨gc,i * 3,none⟩ (.int .i64 c.size)).setCell ⟨gc,i * 3+1,none⟩ (.string (al c.data))).setCell ⟨gc,i * 3+2,none⟩ (.int .i64 c.page)):=hc;generalize ((wd.setCell ⟨gc,i * 3,none⟩ (.int .i64 c.size)).setCell ⟨gc,i * 3+1,none⟩ (.string (al c.data))).setCell ⟨gc,i * 3+2,none⟩ (.int .i64 c.page)=W at *;have HCH:=hid hc2.drew;have HOW:=hid hos.drew;clear hc hc2 hos f0 f1 f2 z0 z1 z2 n0 n1 n2 n3 n4 p0 p1 p2 p3 p4 p5 p6;go_wp2_with fail;go_ret2;rw [HW.out];have hlen:(n.cells.set i c).length=n.cells.length:=List.length_set
  refine ⟨⟨rfl,⟨⟨_,_,_,HCH.out.keep H0.out hcn',HO1.out.ch HCH.out (fun q hq e=>HD1.out q hq (by rw [e];rfl)),HOW.out,HO3.out.ch HCH.out (fun q hq e=>HD3.out.symm q hq (by rw [e];rfl)),HD1.out,HD2.out,HD3.out,HX1.out,fun q hq e=>by have hq:some gc=some q:=hq;injection hq with hq;omega,HX3.out⟩⟩,sY HSN.out HCD.out,rN HFT.out HLF.out⟩,
   HSd.out.ch HCH.out (by omega) (by omega),HHd.out.trans (HCH.out.mono (S':=gK base gs gm) (fun q _ e=>.inr (.inr (by omega))))⟩
end Go.Proofs.YtknioodagnjchaaGreatDoor
