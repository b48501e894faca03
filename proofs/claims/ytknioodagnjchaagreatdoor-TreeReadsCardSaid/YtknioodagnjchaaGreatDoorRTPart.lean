/- tree.part. -/
import Derived.Test.YtknioodagnjchaaGreatDoorRTParts
import Derived.Test.YtknioodagnjchaaGreatDoorRTJoin
set_option maxRecDepth 100000
set_option maxHeartbeats 8000000
namespace Go.Proofs.YtknioodagnjchaaGreatDoor
open Go.Lib (hid)
open Go.RowKit
def Ne (v:Value) (g:Nat):Prop:=∀ k,v.ownBlock=some k→k≠g
def PN (B gn:Nat) (n:Nd) (w:World):Prop:=∃ A1 c1 A2 c2 A3 c3,w.heap[gn]?=some (ap n (.slice A1 n.keys.length c1) (.slice A2 n.cells.length c2) (.slice A3 n.kids.length c3))∧
 SlF sC 1 B w (.slice A1 n.keys.length c1) n.keys∧SlF cC 3 B w (.slice A2 n.cells.length c2) n.cells∧SlF iC 1 B w (.slice A3 n.kids.length c3) n.kids∧
 Ne (.slice A1 n.keys.length c1) gn∧Ne (.slice A2 n.cells.length c2) gn∧Ne (.slice A3 n.kids.length c3) gn
theorem PN.ch {B gn:Nat} {n:Nd} {w w':World} {S:Nat→Prop} (h:PN B gn n w) (hc:Ch S w w') (hs:∀ k,B≤k→¬ S k) (hg:¬ S gn):PN B gn n w':=by obtain ⟨A1,c1,A2,c2,A3,c3,h0,h1,h2,h3,h4⟩:=h;exact ⟨A1,c1,A2,c2,A3,c3,hc.keep h0 hg,h1.ch hc hs,h2.ch hc hs,h3.ch hc hs,h4⟩
theorem PN.keep {B gn:Nat} {n:Nd} {w w':World} (h:PN B gn n w) (hb:Below w.heap.size w w'):PN B gn n w':=h.ch (S:=fun _=>False) (Ch.of_below hb) (fun _ _=>id) id
def ub (B gn:Nat) (w:World) (e:Ending):Ans Nd→Prop
 | .ok n=>e=.returned (.int .i64 0)∧PN B gn n w
 | .err x=>e=.returned (.int .i64 x)∧∃ m,PN B gn m w
def dS (gs gm gn:Nat):Nat→Prop:=fun k=>k=gs∨k=gm∨k=gn
theorem eB {gs gm gn:Nat} {w w':World} (h:Ch (fun k=>k=gs∨k=gm) w w'):Ch (dS gs gm gn) w w':=h.mono fun _ _ e=>e.elim .inl (fun e=>.inr (.inl e))
theorem qO (n c:Nd) (i:Nat) (s:Sf) (pl pr:Nd) (pk:By) (h:cw c=(pl,pk,pr)):(dm n i c).run s=if bj s=0 then
  ((aC (n.kids.getD i 0) pl).bind fun _=>(aC (bN s) pr).bind fun _=>.pure { n with keys:=n.keys.insertIdx i pk,kids:=n.kids.insertIdx (i+1) (bN s) }).run (aR s)
 else (aR s,.err (bj s)):=by
 unfold dm;rw [h];rfl
theorem nI {n:Nd} {m:Nat} (h:n.Sm m):∀ k,k<n.keys.length∨k=0→∀ x,bI n k=some x→x.1.Sm m∧x.2.2.Sm m
 | 0,_,x,hx=>by cases hx
 | k+1,hk,x,hx=>by
   have hk:k+1<n.keys.length:=by omega
   have ih:=nI h k (.inl (by omega))
   have hx:(if dp (aM n (k+1)) then match bI n k with
    | none=>some (aM n (k+1))
    | some b=>if ie (aM n (k+1))<ie b then some (aM n (k+1)) else some b
   else bI n k)=some x:=hx
   split at hx
   ·cases hb:bI n k with
    | none=>rw [hb] at hx;injection hx with hx;subst hx;exact ow h hk
    | some b=>
      rw [hb] at hx;simp only at hx
      split at hx
      ·injection hx with hx;subst hx;exact ow h hk
      ·injection hx with hx;subst hx;exact ih _ hb
   ·exact ih _ hx
theorem mO {n:Nd} {m:Nat} (h:n.Sm m):(cw n).1.Sm m∧(cw n).2.2.Sm m:=by
 unfold cw;cases hb:bI n (n.keys.length - 1) with
 | none=>exact ⟨⟨by simp [Nd.zero],by simp [Nd.zero],by simp [Nd.zero],by simp [Nd.zero],by simp [Nd.zero]⟩,⟨by simp [Nd.zero],by simp [Nd.zero],by simp [Nd.zero],by simp [Nd.zero],by simp [Nd.zero]⟩⟩
 | some x=>exact nI h _ (by omega) x hb
theorem gA (n c:Nd) (i B gs gm gn:Nat) (s:Sf) (vC:Value) (w:World) (hS:ShIs w gs gm s) (hN:PN B gn n w) (hC:NdF B w vC c) (h1:gs<B) (h2:gm<B) (h3:B≤gn)
  (hf:c.Fit) (hs:c.Sm 1000) (hn:n.Sm 1000) (hi:i<n.kids.length) (hi2:i≤n.keys.length):
  Calls Tryz.prog 169 #[bV gs,.pointer (some ⟨gn,0,none⟩),.int .i64 i,vC] w fun e w'=>ub B gn w' e ((dm n i c).run s).2∧ShIs w' gs gm ((dm n i c).run s).1∧Ch (dS gs gm gn) w w':=by
 obtain ⟨⟨pl,pk,pr⟩,hpv⟩:∃ x,cw c=x:=⟨_,rfl⟩;have HRT:=hid (qO n c i s pl pr pk hpv);have HPS:=hid (mO hs);have HPA:=hid (fun (w:World) (h:NdF B w vC c)=>lp c B vC w h hf hs);rw [hpv] at HPS HPA;clear hpv;have HNF:=hid hC;obtain ⟨vk,vc,vd,rfl,j1,j2,j3⟩:=hC;obtain ⟨D1,d1,rfl,-,-⟩:=j1.cap;obtain ⟨D2,d2,rfl,-,-⟩:=j2.cap;obtain ⟨D3,d3,rfl,-,-⟩:=j3.cap;have HBL:=hid (show Below w.heap.size w (w.alloc (ap c (.slice D1 c.keys.length d1) (.slice D2 c.cells.length d2) (.slice D3 c.kids.length d3))) from (Below.refl _ w).alloc (Nat.le_refl _) _);have HX1:=hid (ag (w0:=w) (g:=w.heap.size) (o:=ap c (.slice D1 c.keys.length d1) (.slice D2 c.cells.length d2) (.slice D3 c.kids.length d3)) rfl);have HS0:=hid hS;have HN0:=hid hN;have hsk:=hn.k;have hsd:=hn.d;clear j1 j2 j3 hS hN hf hs;unfold bV;go_enter Tryz.func169,Tryz.ntmps169;go_upto_region 1 with fail
 generalize hw1:w.alloc (.cells #[.bool c.leaf,.slice D1 c.keys.length d1,.slice D2 c.cells.length d2,.slice D3 c.kids.length d3] 110)=w1 at *;have hw2:w.alloc (ap c (.slice D1 c.keys.length d1) (.slice D2 c.cells.length d2) (.slice D3 c.kids.length d3))=w1:=hw1;rw [hw2] at HBL HX1;clear hw1 hw2;obtain ⟨a0,a1,a2,a3,a4⟩:=aa HX1.out;go_wp2_with fail;refine (HPA.out w1 (HNF.out.keep HBL.out)).mono ?_;rintro e w2 ⟨vl,vr,rfl,hl,hr,hb⟩;obtain ⟨lk,lc,ld,rfl,l1,l2,l3⟩:=hl;obtain ⟨L1,e1,rfl,-,-⟩:=l1.cap;obtain ⟨L2,e2,rfl,-,-⟩:=l2.cap;obtain ⟨L3,e3,rfl,-,-⟩:=l3.cap;obtain ⟨rk,rc,rd,rfl,r1,r2,r3⟩:=hr;obtain ⟨R1,f1,rfl,-,-⟩:=r1.cap;obtain ⟨R2,f2,rfl,-,-⟩:=r2.cap;obtain ⟨R3,f3,rfl,-,-⟩:=r3.cap;have HB3:=hid (show Below w1.heap.size w1 ((w2.alloc (ap pl (.slice L1 pl.keys.length e1) (.slice L2 pl.cells.length e2) (.slice L3 pl.kids.length e3))).alloc (ap pr (.slice R1 pr.keys.length f1) (.slice R2 pr.cells.length f2) (.slice R3 pr.kids.length f3))) from (hb.alloc hb.size _).alloc (by have:=hb.size;simp;omega) _);have HL3:=hid (show ((w2.alloc (ap pl (.slice L1 pl.keys.length e1) (.slice L2 pl.cells.length e2) (.slice L3 pl.kids.length e3))).alloc (ap pr (.slice R1 pr.keys.length f1) (.slice R2 pr.cells.length f2) (.slice R3 pr.kids.length f3))).heap[w2.heap.size]?=some (ap pl (.slice L1 pl.keys.length e1) (.slice L2 pl.cells.length e2) (.slice L3 pl.kids.length e3)) from ai (ag rfl) _);have HR3:=hid (show ((w2.alloc (ap pl (.slice L1 pl.keys.length e1) (.slice L2 pl.cells.length e2) (.slice L3 pl.kids.length e3))).alloc (ap pr (.slice R1 pr.keys.length f1) (.slice R2 pr.cells.length f2) (.slice R3 pr.kids.length f3))).heap[w2.heap.size+1]?=some (ap pr (.slice R1 pr.keys.length f1) (.slice R2 pr.cells.length f2) (.slice R3 pr.kids.length f3)) from ag (by simp));have HLF:=hid ((show NdF B w1 (.agg #[.bool pl.leaf,.slice L1 pl.keys.length e1,.slice L2 pl.cells.length e2,.slice L3 pl.kids.length e3]) pl from ⟨_,_,_,rfl,l1,l2,l3⟩).keep HB3.out);have HRF:=hid ((show NdF B w1 (.agg #[.bool pr.leaf,.slice R1 pr.keys.length f1,.slice R2 pr.cells.length f2,.slice R3 pr.kids.length f3]) pr from ⟨_,_,_,rfl,r1,r2,r3⟩).keep HB3.out);have hsz2:=hb.size;have hsz1:=HBL.out.size;clear hb a0 a1 a2 a3 a4 l1 l2 l3 r1 r2 r3;go_upto_region 2 with fail
 generalize hw1:(w2.alloc (.cells #[.bool pl.leaf,.slice L1 pl.keys.length e1,.slice L2 pl.cells.length e2,.slice L3 pl.kids.length e3] 110)).alloc (.cells #[.bool pr.leaf,.slice R1 pr.keys.length f1,.slice R2 pr.cells.length f2,.slice R3 pr.kids.length f3] 110)=w3 at *;have hw2:(w2.alloc (ap pl (.slice L1 pl.keys.length e1) (.slice L2 pl.cells.length e2) (.slice L3 pl.kids.length e3))).alloc (ap pr (.slice R1 pr.keys.length f1) (.slice R2 pr.cells.length f2) (.slice R3 pr.kids.length f3))=w3:=hw1;rw [hw2] at HB3 HL3 HR3 HLF HRF;clear hw1 hw2;have HBW:=hid (HBL.out.trans (HB3.out.mono HBL.out.size));have HS3:=hid (HS0.out.ch (S:=fun _=>False) (Ch.of_below HBW.out) id id);have HN3:=hid (HN0.out.keep HBW.out);have hgn:gn<w.heap.size:=by obtain ⟨_,_,_,_,_,_,h,_⟩:=HN0.out;exact aj h
 go_wp2_with fail;refine (en gs gm s w3 HS3.out).mono ?_;rintro e w4 ⟨rfl,hs,hc⟩;have HS4:=hid hs;have HC4:=hid (show Ch (dS gs gm gn) w w4 from (Ch.of_below HBW.out).trans (eB hc));have HN4:=hid (HN3.out.ch hc (fun k hk e=>by omega) (by omega));have HL4:=hid (hc.keep HL3.out (by omega));have HR4:=hid (hc.keep HR3.out (by omega));have HLF4:=hid (HLF.out.ch hc (fun k hk e=>by omega));have HRF4:=hid (HRF.out.ch hc (fun k hk e=>by omega));have hsz4:=hc.size;have hsz3:=HB3.out.size;clear hs hc;by_cases hbe:bj s=0
 ·have HR:=hid (HRT.out.trans (if_pos hbe));rw [hbe];generalize bN s=at_ at *;generalize aR s=s4 at *;obtain ⟨A1,c1,A2,c2,A3,c3,h0,k1,k2,k3,-⟩:=HN4.out;obtain ⟨n0,n1,n2,n3,n4⟩:=aa h0;obtain ⟨p0,p1,p2,p3,p4⟩:=aa HL4.out;obtain ⟨b,off,c',he,hbl,hcells⟩:=k3.sl.at1 hi;injection he with he1 he2 he3
  subst he1 he3;have e0:w4.cell? ⟨b,off+i,none⟩=some (.int .i64 n.kids[i]):=by simpa [iC] using hcells 0 _ rfl
  have HKD:=hid (show n.kids.getD i 0=n.kids[i] by rw [List.getD_eq_getElem?_getD,List.getElem?_eq_getElem hi];rfl);rw [HKD.out] at HR;generalize n.kids[i]=kd at *;have hi0:(0:Int)≤(i:Int):=by omega
  have hi1:(i:Int)<(n.kids.length:Int):=by omega
  clear h0 k1 k2 k3 hcells;go_upto_region 5 with fail
  go_cut [14] from 30 to 41 (fun ev wc=>ev=dj ((aC kd pl).run s4).2∧ShIs wc gs gm ((aC kd pl).run s4).1∧Ch (fun k=>k=gs∨k=gm) w4 wc)
  case first=>
   go_region_law (first
    | (go_simp
       go_at_call 66;refine (bp kd pl _ gs gm s4 w4.drew (HS4.out.ch (S:=fun _=>False) (Ch.refl _ w4).drew id id) (HLF4.out.ch (S:=fun _=>False) (Ch.refl _ w4).drew (fun _ _=>id)).val (HPS.out.1.bd (by decide))).mono ?_;rintro e w5 ⟨rfl,hs,hc⟩;have HS5:=hid hs;have HH5:=hid ((Ch.refl _ w4).drew.trans hc);clear hs hc))
   all_goals
    go_wp2_with fail;go_meet
    case rel=>exact ⟨rfl,HS5.out,HH5.out⟩
  case rest=>
  obtain ⟨rfl,hs5,hh5⟩:=hcut;have HS5:=hid hs5;have HH5:=hid hh5;clear hs5 hh5;have HN5:=hid (HN4.out.ch HH5.out (fun k hk e=>by omega) (by omega));have HR5:=hid (HH5.out.keep HR4.out (by omega));have HRF5:=hid (HRF4.out.ch HH5.out (fun k hk e=>by omega));have HC5:=hid (HC4.out.trans (eB HH5.out));have hsz5:=HH5.out.size;clear n0 n1 n2 n3 n4 p0 p1 p2 p3 p4 e0 HH5;have hnz:=Pro.NZ.run (aC kd pl) s4;obtain ⟨⟨s5,a⟩,hx⟩:∃ x,(aC kd pl).run s4=x:=⟨_,rfl⟩;rw [hx] at HS5 hnz ⊢;cases a with
  | err x=>
    have hx0:¬ x=0:=hnz x (ci _ _) rfl;have hx1:(x == 0)=false:=by simpa using hx0
    have HV:=hid (HR.out.trans (ak hx));simp only [dj];go_wp2_with fail;go_ret;rw [HV.out];exact ⟨⟨rfl,n,HN5.out⟩,HS5.out,HC5.out⟩
  | ok u=>
    have HR2:=hid (HR.out.trans (af hx));simp only [dj];clear hnz hx;obtain ⟨q0,q1,q2,q3,q4⟩:=aa HR5.out;go_wp2_with fail;refine (bp at_ pr _ gs gm s5 wc HS5.out HRF5.out.val (HPS.out.2.bd (by decide))).mono ?_;rintro e w6 ⟨rfl,hs,hc⟩;have HS6:=hid hs;have HN6:=hid (HN5.out.ch hc (fun k hk e=>by omega) (by omega));have HC6:=hid (HC5.out.trans (eB hc));have hsz6:=hc.size;clear hs hc q0 q1 q2 q3 q4;have hnz:=Pro.NZ.run (aC at_ pr) s5;obtain ⟨⟨s6,a⟩,hx⟩:∃ x,(aC at_ pr).run s5=x:=⟨_,rfl⟩;rw [hx] at HS6 hnz ⊢;cases a with
    | err x=>
      have hx0:¬ x=0:=hnz x (ci _ _) rfl;have hx1:(x == 0)=false:=by simpa using hx0
      have HV:=hid (HR2.out.trans (ak hx));simp only [dj];go_wp2_with fail;go_ret;rw [HV.out];exact ⟨⟨rfl,n,HN6.out⟩,HS6.out,HC6.out⟩
    | ok u=>
      have HV:=hid (HR2.out.trans (af hx));simp only [dj];clear hnz hx;obtain ⟨A1,c1,A2,c2,A3,c3,h0,k1,k2,k3,m1,m2,m3⟩:=HN6.out;have H0:=hid h0;have K1:=hid k1;have K2:=hid k2;have K3:=hid k3;have M2:=hid m2;have M3:=hid m3;obtain ⟨n0,n1,n2,n3,n4⟩:=aa h0;have fn:=ab h0;clear h0 k1 k2 k3 m1 m2 m3;go_wp2_with fail;refine (gI n.keys _ w6 K1.out.sl (by omega)).mono ?_;rintro e w7 ⟨v7,rfl,ho,hb⟩;have HO7:=hid (ho.alloc (.cells #[.string (al pk)] 9));have HB7:=hid (hb.alloc hb.size (.cells #[.string (al pk)] 9));have HVB:=hid (ag (w0:=w7) (g:=w7.heap.size) (o:=.cells #[.string (al pk)] 9) rfl);have HNE:=hid (show v7.ownBlock≠some w7.heap.size from fun e=>by have:=(ho.lt _ e).2;omega);have hsz7:=hb.size;clear ho hb;obtain ⟨n0,n1,n2,n3,n4⟩:=aa (ae H0.out HB7.out);go_wp2_with fail;refine (m8 n.keys i pk w6.heap.size w7.heap.size _ v7 _ _ HO7.out hi2 (by simp;omega) (by omega) HVB.out HNE.out).mono ?_;rintro e w8 ⟨v8,rfl,ho,hg,hat⟩;have HB8:=hid (HB7.out.grown hg (by simp;omega) (fun k hk=>(HO7.out.lt k hk).1));have HS8:=hid (ho.slf aP);obtain ⟨E1,x1,rfl⟩:=ho.form;have hsz8:=HB8.out.size;clear ho hg hat HO7 HB7 HVB HNE n0 n1 n2 n3 n4;have H8:=hid (ae H0.out HB8.out);obtain ⟨n0,n1,n2,n3,n4⟩:=aa H8.out;have fn:=ab H8.out;have HC9:=hid ((Ch.refl (fun k=>k=gn) w8).setCell (p:=⟨gn,1,none⟩) rfl (.slice E1 (n.keys.insertIdx i pk).length x1));have H9:=hid (show (w8.setCell ⟨gn,1,none⟩ (.slice E1 (n.keys.insertIdx i pk).length x1)).heap[gn]?=some (ap n (.slice E1 (n.keys.insertIdx i pk).length x1) (.slice A2 n.cells.length c2) (.slice A3 n.kids.length c3)) from ah H8.out 1 _);go_upto_region 12 with fail
      generalize w8.setCell ⟨gn,1,none⟩ (.slice E1 (n.keys.insertIdx i pk).length x1)=w9 at *;have hsz9:=HC9.out.size;have HL9:=hid ((Ch.of_below (S:=fun k=>k=gn) HB8.out).trans HC9.out);have J1:=hid (HS8.out.ch HC9.out (fun k hk e=>by omega));have J2:=hid (K2.out.ch' HL9.out M2.out);have J3:=hid (K3.out.ch' HL9.out M3.out);have HC10:=hid (HC6.out.trans (HL9.out.mono (S':=dS gs gm gn) (fun _ _ e=>.inr (.inr e))));have HS10:=hid (HS6.out.ch HL9.out (by omega) (by omega));clear n0 n1 n2 n3 n4 fn H8 HS8;obtain ⟨n0,n1,n2,n3,n4⟩:=aa H9.out;have fn:=ab H9.out;go_wp2_with fail;refine (nz n.kids _ w9 J3.out.sl (by omega)).mono ?_;rintro e wa ⟨va,rfl,ho,hb⟩;have HOa:=hid (ho.alloc (.cells #[.int .i64 at_] 3));have HBa:=hid (hb.alloc hb.size (.cells #[.int .i64 at_] 3));have HVB:=hid (ag (w0:=wa) (g:=wa.heap.size) (o:=.cells #[.int .i64 at_] 3) rfl);have HNE:=hid (show va.ownBlock≠some wa.heap.size from fun e=>by have:=(ho.lt _ e).2;omega);have hsza:=hb.size;clear ho hb;obtain ⟨n0,n1,n2,n3,n4⟩:=aa (ae H9.out HBa.out);have hw1:IntKind.i64.wrap ((i:Int)+1)=((i+1:Nat):Int):=by rw [IntKind.wrap_i64];omega
      go_wp2_with fail;have HIN:=hid (q9 n.kids (i+1) at_ w9.heap.size wa.heap.size 1 va _ _ HOa.out (by omega) (by simp;omega) (by omega) HVB.out HNE.out);refine HIN.out.mono ?_;rintro e wb ⟨vb,rfl,ho,hg,hat⟩;have HBb:=hid (HBa.out.grown hg (by simp;omega) (fun k hk=>(HOa.out.lt k hk).1));have HSb:=hid (ho.slf aA);obtain ⟨E3,x3,rfl⟩:=ho.form;have hszb:=HBb.out.size;clear ho hg hat HOa HBa HVB HNE n0 n1 n2 n3 n4 HIN;have Hb:=hid (ae H9.out HBb.out);obtain ⟨n0,n1,n2,n3,n4⟩:=aa Hb.out;have fn:=ab Hb.out;have HCc:=hid ((Ch.refl (fun k=>k=gn) wb).setCell (p:=⟨gn,3,none⟩) rfl (.slice E3 (n.kids.insertIdx (i+1) at_).length x3));have Hc:=hid (show (wb.setCell ⟨gn,3,none⟩ (.slice E3 (n.kids.insertIdx (i+1) at_).length x3)).heap[gn]?=some (ap n (.slice E1 (n.keys.insertIdx i pk).length x1) (.slice A2 n.cells.length c2) (.slice E3 (n.kids.insertIdx (i+1) at_).length x3)) from ah Hb.out 3 _);go_wp2_with fail;go_ret;generalize wb.setCell ⟨gn,3,none⟩ (.slice E3 (n.kids.insertIdx (i+1) at_).length x3)=wc at *;have HLc:=(Ch.of_below (S:=fun k=>k=gn) HBb.out).trans HCc.out;rw [HV.out]
      exact ⟨⟨rfl,E1,x1,A2,c2,E3,x3,Hc.out,(J1.out.mono (by omega)).ch' HLc (fun k hk e=>by have:=J1.out.far k hk;omega),J2.out.ch' HLc M2.out,(HSb.out.mono (by omega)).ch' HCc.out (fun k hk e=>by have:=HSb.out.far k hk;omega),
       fun k hk e=>by have:=J1.out.far k hk;omega,M2.out,fun k hk e=>by have:=HSb.out.far k hk;omega⟩,HS10.out.ch HLc (by omega) (by omega),HC10.out.trans (HLc.mono (fun _ _ e=>.inr (.inr e)))⟩
 ·have HR:=hid (HRT.out.trans (if_neg hbe));generalize bj s=be at *;have hbe2:(be == 0)=false:=by simpa using hbe
  go_wp2_with fail;go_ret;rw [HR.out];exact ⟨⟨rfl,n,HN4.out⟩,HS4.out,HC4.out⟩
end Go.Proofs.YtknioodagnjchaaGreatDoor
