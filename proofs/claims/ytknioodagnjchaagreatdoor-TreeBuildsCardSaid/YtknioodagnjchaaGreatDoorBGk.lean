/- tree.part. tree.meet. tree.bad, settle. tree: what Put and Del do to a leaf. tree.alter: what it answers; no code 0. tree: what Put does to a leaf. -/
import Derived.Test.YtknioodagnjchaaGreatDoorBGj
import Derived.BigRegion
set_option maxRecDepth 100000
set_option maxHeartbeats 40000000
namespace Go.Proofs.YtknioodagnjchaaGreatDoor
open List renaming getD_eq_getElem?_getD->Bt,getElem?_eq_getElem->Bv,length_insertIdx_of_le_length->Bx,length_eraseIdx_of_lt->BB,eraseIdx_sublist->BC,getElem_mem->BE,length_set->BF,mem_of_mem_take->BH,mem_of_mem_drop->BI,mem_or_eq_of_mem_set->BK,mem_append->BL
open Nat renaming le_refl->Bw,lt_of_lt_of_le->BJ
open Go renaming World->Bz,Value->BG
open Go.IntKind renaming wrap_i64->BA
open _root_.Array renaming getElem?_eq_getElem->BD
open Go.Lib renaming hid->Z
open Go.RowKit
def Ne (v:BG) (g:Nat):Prop:=∀ k,v.ownBlock=some k->k≠g
def PN (B gn:Nat) (n:Nd) (w:Bz):Prop:=∃ A1 c1 A2 c2 A3 c3,w.heap[gn]?=some (ar n (.slice A1 n.keys.length c1) (.slice A2 n.cells.length c2) (.slice A3 n.kids.length c3))/\
 SlF sC 1 B w (.slice A1 n.keys.length c1) n.keys/\SlF cC 3 B w (.slice A2 n.cells.length c2) n.cells/\SlF iC 1 B w (.slice A3 n.kids.length c3) n.kids/\
 Ne (.slice A1 n.keys.length c1) gn/\Ne (.slice A2 n.cells.length c2) gn/\Ne (.slice A3 n.kids.length c3) gn
theorem PN.ch {B gn:Nat} {n:Nd} {w w':Bz} {S:Nat->Prop} (h:PN B gn n w) (hc:Ch S w w') (hs:∀ k,B<=k->¬ S k) (hg:¬ S gn):PN B gn n w':=by obtain ⟨A1,c1,A2,c2,A3,c3,h0,h1,h2,h3,h4⟩:=h;exact ⟨A1,c1,A2,c2,A3,c3,hc.keep h0 hg,h1.ch hc hs,h2.ch hc hs,h3.ch hc hs,h4⟩
theorem PN.keep {B gn:Nat} {n:Nd} {w w':Bz} (h:PN B gn n w) (hb:Below w.heap.size w w'):PN B gn n w':=h.ch (S:=fun _=>False) (Ch.zK hb) (fun _ _=>id) id
def zD (B gn:Nat) (w:Bz) (e:Ending):Ans Nd->Prop
 | .ok n=>e=.returned (.int .i64 0)/\PN B gn n w
 | .err x=>e=.returned (.int .i64 x)/\∃ m,PN B gn m w
def eY (gs gm gn:Nat):Nat->Prop:=fun k=>k=gs\/k=gm\/k=gn
theorem fR {gs gm gn:Nat} {w w':Bz} (h:Ch (fun k=>k=gs\/k=gm) w w'):Ch (eY gs gm gn) w w':=h.mono fun _ _ e=>e.elim .inl (fun e=>.inr (.inl e))
theorem vW (n c:Nd) (i:Nat) (s:Sf) (pl pr:Nd) (pk:By) (h:dk c=(pl,pk,pr)):(eh n i c).run s=if br s=0 then
  ((aE (n.kids.getD i 0) pl).bind fun _=>(aE (bR s) pr).bind fun _=>.pure { n with keys:=n.keys.insertIdx i pk,kids:=n.kids.insertIdx (i+1) (bR s) }).run (aJ s)
 else (aJ s,.err (br s)):=by
 unfold eh;rw [h];rfl
theorem rA {n:Nd} {m:Nat} (h:n.Sm m):∀ k,k<n.keys.length\/k=0->∀ x,bZ n k=some x->x.1.Sm m/\x.2.2.Sm m
 | 0,_,x,hx=>by cases hx
 | k+1,hk,x,hx=>by
   have hk:k+1<n.keys.length:=by omega
   have ih:=rA h k (.inl (by omega))
   have hx:(if ei (aS n (k+1)) then match bZ n k with
    | none=>some (aS n (k+1))
    | some b=>if jP (aS n (k+1))<jP b then some (aS n (k+1)) else some b
   else bZ n k)=some x:=hx
   split at hx
   ·cases hb:bZ n k with
    | none=>rw [hb] at hx;injection hx with hx;subst hx;exact sI h hk
    | some b=>
      rw [hb] at hx;simp only at hx
      split at hx
      ·injection hx with hx;subst hx;exact sI h hk
      ·injection hx with hx;subst hx;exact ih _ hb
   ·exact ih _ hx
theorem qF {n:Nd} {m:Nat} (h:n.Sm m):(dk n).1.Sm m/\(dk n).2.2.Sm m:=by
 unfold dk;cases hb:bZ n (n.keys.length - 1) with
 | none=>exact ⟨⟨by simp [Nd.zero],by simp [Nd.zero],by simp [Nd.zero],by simp [Nd.zero],by simp [Nd.zero]⟩,⟨by simp [Nd.zero],by simp [Nd.zero],by simp [Nd.zero],by simp [Nd.zero],by simp [Nd.zero]⟩⟩
 | some x=>exact rA h _ (by omega) x hb
theorem iZ (n c:Nd) (i B gs gm gn:Nat) (s:Sf) (vC:BG) (w:Bz) (hS:ShIs w gs gm s) (hN:PN B gn n w) (hC:NdF B w vC c) (h1:gs<B) (h2:gm<B) (h3:B<=gn)
  (hf:c.Fit) (hs:c.Sm 1000) (hn:n.Sm 1000) (hi:i<n.kids.length) (hi2:i<=n.keys.length):
  Calls Tryz.prog 169 #[co gs,.pointer (some ⟨gn,0,none⟩),.int .i64 i,vC] w fun e w'=>zD B gn w' e ((eh n i c).run s).2/\ShIs w' gs gm ((eh n i c).run s).1/\Ch (eY gs gm gn) w w':=by
 obtain ⟨⟨pl,pk,pr⟩,hpv⟩:∃ x,dk c=x:=⟨_,rfl⟩;have HRT:=Z (vW n c i s pl pr pk hpv);have HPS:=Z (qF hs);have HPA:=Z (fun (w:Bz) (h:NdF B w vC c)=>oy c B vC w h hf hs);rw [hpv] at HPS HPA;clear hpv;have HNF:=Z hC;obtain ⟨vk,vc,vd,rfl,j1,j2,j3⟩:=hC;obtain ⟨D1,d1,rfl,-,-⟩:=j1.cap;obtain ⟨D2,d2,rfl,-,-⟩:=j2.cap;obtain ⟨D3,d3,rfl,-,-⟩:=j3.cap;have HBL:=Z (show Below w.heap.size w (w.alloc (ar c (.slice D1 c.keys.length d1) (.slice D2 c.cells.length d2) (.slice D3 c.kids.length d3))) from (Below.refl _ w).alloc (Bw _) _);have HX1:=Z (ag (w0:=w) (g:=w.heap.size) (o:=ar c (.slice D1 c.keys.length d1) (.slice D2 c.cells.length d2) (.slice D3 c.kids.length d3)) rfl);have HS0:=Z hS;have HN0:=Z hN;have hsk:=hn.k;have hsd:=hn.d;clear j1 j2 j3 hS hN hf hs;unfold co;go_enter Tryz.func169,Tryz.ntmps169;go_upto_region 1 with fail
 generalize hw1:w.alloc (.cells #[.bool c.leaf,.slice D1 c.keys.length d1,.slice D2 c.cells.length d2,.slice D3 c.kids.length d3] 110)=w1 at *;have hw2:w.alloc (ar c (.slice D1 c.keys.length d1) (.slice D2 c.cells.length d2) (.slice D3 c.kids.length d3))=w1:=hw1;rw [hw2] at HBL HX1;clear hw1 hw2;obtain ⟨a0,a1,a2,a3,a4⟩:=aa HX1.out;go_wp2_with fail;refine (HPA.out w1 (HNF.out.keep HBL.out)).mono ?_;rintro e w2 ⟨vl,vr,rfl,hl,hr,hb⟩;obtain ⟨lk,lc,ld,rfl,l1,l2,l3⟩:=hl;obtain ⟨L1,e1,rfl,-,-⟩:=l1.cap;obtain ⟨L2,e2,rfl,-,-⟩:=l2.cap;obtain ⟨L3,e3,rfl,-,-⟩:=l3.cap;obtain ⟨rk,rc,rd,rfl,r1,r2,r3⟩:=hr;obtain ⟨R1,f1,rfl,-,-⟩:=r1.cap;obtain ⟨R2,f2,rfl,-,-⟩:=r2.cap;obtain ⟨R3,f3,rfl,-,-⟩:=r3.cap;have HB3:=Z (show Below w1.heap.size w1 ((w2.alloc (ar pl (.slice L1 pl.keys.length e1) (.slice L2 pl.cells.length e2) (.slice L3 pl.kids.length e3))).alloc (ar pr (.slice R1 pr.keys.length f1) (.slice R2 pr.cells.length f2) (.slice R3 pr.kids.length f3))) from (hb.alloc hb.size _).alloc (by have:=hb.size;simp;omega) _);have HL3:=Z (show ((w2.alloc (ar pl (.slice L1 pl.keys.length e1) (.slice L2 pl.cells.length e2) (.slice L3 pl.kids.length e3))).alloc (ar pr (.slice R1 pr.keys.length f1) (.slice R2 pr.cells.length f2) (.slice R3 pr.kids.length f3))).heap[w2.heap.size]?=some (ar pl (.slice L1 pl.keys.length e1) (.slice L2 pl.cells.length e2) (.slice L3 pl.kids.length e3)) from am (ag rfl) _);have HR3:=Z (show ((w2.alloc (ar pl (.slice L1 pl.keys.length e1) (.slice L2 pl.cells.length e2) (.slice L3 pl.kids.length e3))).alloc (ar pr (.slice R1 pr.keys.length f1) (.slice R2 pr.cells.length f2) (.slice R3 pr.kids.length f3))).heap[w2.heap.size+1]?=some (ar pr (.slice R1 pr.keys.length f1) (.slice R2 pr.cells.length f2) (.slice R3 pr.kids.length f3)) from ag (by simp));have HLF:=Z ((show NdF B w1 (.agg #[.bool pl.leaf,.slice L1 pl.keys.length e1,.slice L2 pl.cells.length e2,.slice L3 pl.kids.length e3]) pl from ⟨_,_,_,rfl,l1,l2,l3⟩).keep HB3.out);have HRF:=Z ((show NdF B w1 (.agg #[.bool pr.leaf,.slice R1 pr.keys.length f1,.slice R2 pr.cells.length f2,.slice R3 pr.kids.length f3]) pr from ⟨_,_,_,rfl,r1,r2,r3⟩).keep HB3.out);have hsz2:=hb.size;have hsz1:=HBL.out.size;clear hb a0 a1 a2 a3 a4 l1 l2 l3 r1 r2 r3;go_upto_region 2 with fail
 generalize hw1:(w2.alloc (.cells #[.bool pl.leaf,.slice L1 pl.keys.length e1,.slice L2 pl.cells.length e2,.slice L3 pl.kids.length e3] 110)).alloc (.cells #[.bool pr.leaf,.slice R1 pr.keys.length f1,.slice R2 pr.cells.length f2,.slice R3 pr.kids.length f3] 110)=w3 at *;have hw2:(w2.alloc (ar pl (.slice L1 pl.keys.length e1) (.slice L2 pl.cells.length e2) (.slice L3 pl.kids.length e3))).alloc (ar pr (.slice R1 pr.keys.length f1) (.slice R2 pr.cells.length f2) (.slice R3 pr.kids.length f3))=w3:=hw1;rw [hw2] at HB3 HL3 HR3 HLF HRF;clear hw1 hw2;have HBW:=Z (HBL.out.trans (HB3.out.mono HBL.out.size));have HS3:=Z (HS0.out.ch (S:=fun _=>False) (Ch.zK HBW.out) id id);have HN3:=Z (HN0.out.keep HBW.out);have hgn:gn<w.heap.size:=by obtain ⟨_,_,_,_,_,_,h,_⟩:=HN0.out;exact aj h
 go_wp2_with fail;refine (eO gs gm s w3 HS3.out).mono ?_;rintro e w4 ⟨rfl,hs,hc⟩;have HS4:=Z hs;have HC4:=Z (show Ch (eY gs gm gn) w w4 from (Ch.zK HBW.out).trans (fR hc));have HN4:=Z (HN3.out.ch hc (fun k hk e=>by omega) (by omega));have HL4:=Z (hc.keep HL3.out (by omega));have HR4:=Z (hc.keep HR3.out (by omega));have HLF4:=Z (HLF.out.ch hc (fun k hk e=>by omega));have HRF4:=Z (HRF.out.ch hc (fun k hk e=>by omega));have hsz4:=hc.size;have hsz3:=HB3.out.size;clear hs hc;by_cases hbe:br s=0
 ·have HR:=Z (HRT.out.trans (if_pos hbe));rw [hbe];generalize bR s=at_ at *;generalize aJ s=s4 at *;obtain ⟨A1,c1,A2,c2,A3,c3,h0,k1,k2,k3,-⟩:=HN4.out;obtain ⟨n0,n1,n2,n3,n4⟩:=aa h0;obtain ⟨p0,p1,p2,p3,p4⟩:=aa HL4.out;obtain ⟨b,off,c',he,hbl,hcells⟩:=k3.sl.zQ hi;injection he with he1 he2 he3
  subst he1 he3;have e0:w4.cell? ⟨b,off+i,none⟩=some (.int .i64 n.kids[i]):=by simpa [iC] using hcells 0 _ rfl
  have HKD:=Z (show n.kids.getD i 0=n.kids[i] by rw [Bt,Bv hi];rfl);rw [HKD.out] at HR;generalize n.kids[i]=kd at *;have hi0:(0:Int)<=(i:Int):=by omega
  have hi1:(i:Int)<(n.kids.length:Int):=by omega
  clear h0 k1 k2 k3 hcells;go_upto_region 5 with fail
  go_cut [14] from 30 to 41 (fun ev wc=>ev=dW ((aE kd pl).run s4).2/\ShIs wc gs gm ((aE kd pl).run s4).1/\Ch (fun k=>k=gs\/k=gm) w4 wc)
  case first=>
   go_region_law (first
    | (go_simp
       go_at_call 66;refine (bE kd pl _ gs gm s4 w4.drew (HS4.out.ch (S:=fun _=>False) (Ch.refl _ w4).drew id id) (HLF4.out.ch (S:=fun _=>False) (Ch.refl _ w4).drew (fun _ _=>id)).val (HPS.out.1.bd (by decide))).mono ?_;rintro e w5 ⟨rfl,hs,hc⟩;have HS5:=Z hs;have HH5:=Z ((Ch.refl _ w4).drew.trans hc);clear hs hc))
   all_goals
    go_wp2_with fail;go_meet
    case rel=>exact ⟨rfl,HS5.out,HH5.out⟩
  case rest=>
  obtain ⟨rfl,hs5,hh5⟩:=hcut;have HS5:=Z hs5;have HH5:=Z hh5;clear hs5 hh5;have HN5:=Z (HN4.out.ch HH5.out (fun k hk e=>by omega) (by omega));have HR5:=Z (HH5.out.keep HR4.out (by omega));have HRF5:=Z (HRF4.out.ch HH5.out (fun k hk e=>by omega));have HC5:=Z (HC4.out.trans (fR HH5.out));have hsz5:=HH5.out.size;clear n0 n1 n2 n3 n4 p0 p1 p2 p3 p4 e0 HH5;have hnz:=Pro.NZ.run (aE kd pl) s4;obtain ⟨⟨s5,a⟩,hx⟩:∃ x,(aE kd pl).run s4=x:=⟨_,rfl⟩;rw [hx] at HS5 hnz ⊢;cases a with
  | err x=>
    have hx0:¬ x=0:=hnz x (cQ _ _) rfl;have hx1:(x == 0)=false:=by simpa using hx0
    have HV:=Z (HR.out.trans (aq hx));simp only [dW];go_wp2_with fail;go_ret;rw [HV.out];exact ⟨⟨rfl,n,HN5.out⟩,HS5.out,HC5.out⟩
  | ok u=>
    have HR2:=Z (HR.out.trans (ah hx));simp only [dW];clear hnz hx;obtain ⟨q0,q1,q2,q3,q4⟩:=aa HR5.out;go_wp2_with fail;refine (bE at_ pr _ gs gm s5 wc HS5.out HRF5.out.val (HPS.out.2.bd (by decide))).mono ?_;rintro e w6 ⟨rfl,hs,hc⟩;have HS6:=Z hs;have HN6:=Z (HN5.out.ch hc (fun k hk e=>by omega) (by omega));have HC6:=Z (HC5.out.trans (fR hc));have hsz6:=hc.size;clear hs hc q0 q1 q2 q3 q4;have hnz:=Pro.NZ.run (aE at_ pr) s5;obtain ⟨⟨s6,a⟩,hx⟩:∃ x,(aE at_ pr).run s5=x:=⟨_,rfl⟩;rw [hx] at HS6 hnz ⊢;cases a with
    | err x=>
      have hx0:¬ x=0:=hnz x (cQ _ _) rfl;have hx1:(x == 0)=false:=by simpa using hx0
      have HV:=Z (HR2.out.trans (aq hx));simp only [dW];go_wp2_with fail;go_ret;rw [HV.out];exact ⟨⟨rfl,n,HN6.out⟩,HS6.out,HC6.out⟩
    | ok u=>
      have HV:=Z (HR2.out.trans (ah hx));simp only [dW];clear hnz hx;obtain ⟨A1,c1,A2,c2,A3,c3,h0,k1,k2,k3,m1,m2,m3⟩:=HN6.out;have H0:=Z h0;have K1:=Z k1;have K2:=Z k2;have K3:=Z k3;have M2:=Z m2;have M3:=Z m3;obtain ⟨n0,n1,n2,n3,n4⟩:=aa h0;have fn:=ab h0;clear h0 k1 k2 k3 m1 m2 m3;go_wp2_with fail;refine (fK n.keys _ w6 K1.out.sl (by omega)).mono ?_;rintro e w7 ⟨v7,rfl,ho,hb⟩;have HO7:=Z (ho.alloc (.cells #[.string (ap pk)] 9));have HB7:=Z (hb.alloc hb.size (.cells #[.string (ap pk)] 9));have HVB:=Z (ag (w0:=w7) (g:=w7.heap.size) (o:=.cells #[.string (ap pk)] 9) rfl);have HNE:=Z (show v7.ownBlock≠some w7.heap.size from fun e=>by have:=(ho.lt _ e).2;omega);have hsz7:=hb.size;clear ho hb;obtain ⟨n0,n1,n2,n3,n4⟩:=aa (af H0.out HB7.out);go_wp2_with fail;refine (qX n.keys i pk w6.heap.size w7.heap.size _ v7 _ _ HO7.out hi2 (by simp;omega) (by omega) HVB.out HNE.out).mono ?_;rintro e w8 ⟨v8,rfl,ho,hg,hat⟩;have HB8:=Z (HB7.out.grown hg (by simp;omega) (fun k hk=>(HO7.out.lt k hk).1));have HS8:=Z (ho.zN aG);obtain ⟨E1,x1,rfl⟩:=ho.form;have hsz8:=HB8.out.size;clear ho hg hat HO7 HB7 HVB HNE n0 n1 n2 n3 n4;have H8:=Z (af H0.out HB8.out);obtain ⟨n0,n1,n2,n3,n4⟩:=aa H8.out;have fn:=ab H8.out;have HC9:=Z ((Ch.refl (fun k=>k=gn) w8).setCell (p:=⟨gn,1,none⟩) rfl (.slice E1 (n.keys.insertIdx i pk).length x1));have H9:=Z (show (w8.setCell ⟨gn,1,none⟩ (.slice E1 (n.keys.insertIdx i pk).length x1)).heap[gn]?=some (ar n (.slice E1 (n.keys.insertIdx i pk).length x1) (.slice A2 n.cells.length c2) (.slice A3 n.kids.length c3)) from ai H8.out 1 _);go_upto_region 12 with fail
      generalize w8.setCell ⟨gn,1,none⟩ (.slice E1 (n.keys.insertIdx i pk).length x1)=w9 at *;have hsz9:=HC9.out.size;have HL9:=Z ((Ch.zK (S:=fun k=>k=gn) HB8.out).trans HC9.out);have J1:=Z (HS8.out.ch HC9.out (fun k hk e=>by omega));have J2:=Z (K2.out.Az HL9.out M2.out);have J3:=Z (K3.out.Az HL9.out M3.out);have HC10:=Z (HC6.out.trans (HL9.out.mono (S':=eY gs gm gn) (fun _ _ e=>.inr (.inr e))));have HS10:=Z (HS6.out.ch HL9.out (by omega) (by omega));clear n0 n1 n2 n3 n4 fn H8 HS8;obtain ⟨n0,n1,n2,n3,n4⟩:=aa H9.out;have fn:=ab H9.out;go_wp2_with fail;refine (nt n.kids _ w9 J3.out.sl (by omega)).mono ?_;rintro e wa ⟨va,rfl,ho,hb⟩;have HOa:=Z (ho.alloc (.cells #[.int .i64 at_] 3));have HBa:=Z (hb.alloc hb.size (.cells #[.int .i64 at_] 3));have HVB:=Z (ag (w0:=wa) (g:=wa.heap.size) (o:=.cells #[.int .i64 at_] 3) rfl);have HNE:=Z (show va.ownBlock≠some wa.heap.size from fun e=>by have:=(ho.lt _ e).2;omega);have hsza:=hb.size;clear ho hb;obtain ⟨n0,n1,n2,n3,n4⟩:=aa (af H9.out HBa.out);have hw1:IntKind.i64.wrap ((i:Int)+1)=((i+1:Nat):Int):=by rw [BA];omega
      go_wp2_with fail;have HIN:=Z (wA n.kids (i+1) at_ w9.heap.size wa.heap.size 1 va _ _ HOa.out (by omega) (by simp;omega) (by omega) HVB.out HNE.out);refine HIN.out.mono ?_;rintro e wb ⟨vb,rfl,ho,hg,hat⟩;have HBb:=Z (HBa.out.grown hg (by simp;omega) (fun k hk=>(HOa.out.lt k hk).1));have HSb:=Z (ho.zN ax);obtain ⟨E3,x3,rfl⟩:=ho.form;have hszb:=HBb.out.size;clear ho hg hat HOa HBa HVB HNE n0 n1 n2 n3 n4 HIN;have Hb:=Z (af H9.out HBb.out);obtain ⟨n0,n1,n2,n3,n4⟩:=aa Hb.out;have fn:=ab Hb.out;have HCc:=Z ((Ch.refl (fun k=>k=gn) wb).setCell (p:=⟨gn,3,none⟩) rfl (.slice E3 (n.kids.insertIdx (i+1) at_).length x3));have Hc:=Z (show (wb.setCell ⟨gn,3,none⟩ (.slice E3 (n.kids.insertIdx (i+1) at_).length x3)).heap[gn]?=some (ar n (.slice E1 (n.keys.insertIdx i pk).length x1) (.slice A2 n.cells.length c2) (.slice E3 (n.kids.insertIdx (i+1) at_).length x3)) from ai Hb.out 3 _);go_wp2_with fail;go_ret;generalize wb.setCell ⟨gn,3,none⟩ (.slice E3 (n.kids.insertIdx (i+1) at_).length x3)=wc at *;have HLc:=(Ch.zK (S:=fun k=>k=gn) HBb.out).trans HCc.out;rw [HV.out]
      exact ⟨⟨rfl,E1,x1,A2,c2,E3,x3,Hc.out,(J1.out.mono (by omega)).Az HLc (fun k hk e=>by have:=J1.out.far k hk;omega),J2.out.Az HLc M2.out,(HSb.out.mono (by omega)).Az HCc.out (fun k hk e=>by have:=HSb.out.far k hk;omega),
       fun k hk e=>by have:=J1.out.far k hk;omega,M2.out,fun k hk e=>by have:=HSb.out.far k hk;omega⟩,HS10.out.ch HLc (by omega) (by omega),HC10.out.trans (HLc.mono (fun _ _ e=>.inr (.inr e)))⟩
 ·have HR:=Z (HRT.out.trans (if_neg hbe));generalize br s=be at *;have hbe2:(be == 0)=false:=by simpa using hbe
  go_wp2_with fail;go_ret;rw [HR.out];exact ⟨⟨rfl,n,HN4.out⟩,HS4.out,HC4.out⟩
theorem Own.zS {α:Type} {f:α->List BG} {size:Nat} {e:TypeId} {base:Nat} {w:Bz} {v:BG} {xs:List α} (h:Own f size e base w v xs) (hne:xs≠[]):∃ g c,v=.slice (some ⟨g,0,none⟩) xs.length c/\base<=g/\g<w.heap.size:=by
 rcases h.2 with ⟨rfl,h0⟩ | ⟨g,cap,cur,rfl,hb,hg,_⟩
 ·exact absurd (List.eq_nil_of_length_eq_zero h0) hne
 ·exact ⟨g,cap,rfl,hb,aj hg⟩
theorem PN.mk' {B gn:Nat} {n:Nd} {w:Bz} {v1 v2 v3:BG} (h0:w.heap[gn]?=some (ar n v1 v2 v3)) (h1:SlF sC 1 B w v1 n.keys) (h2:SlF cC 3 B w v2 n.cells) (h3:SlF iC 1 B w v3 n.kids) (m1:Ne v1 gn) (m2:Ne v2 gn) (m3:Ne v3 gn):PN B gn n w:=by obtain ⟨A1,c1,rfl,-,-⟩:=h1.cap;obtain ⟨A2,c2,rfl,-,-⟩:=h2.cap;obtain ⟨A3,c3,rfl,-,-⟩:=h3.cap;exact ⟨A1,c1,A2,c2,A3,c3,h0,h1,h2,h3,m1,m2,m3⟩
theorem PN.out {B gn:Nat} {n:Nd} {w:Bz} (h:PN B gn n w):gn<w.heap.size:=by obtain ⟨_,_,_,_,_,_,h,_⟩:=h;exact aj h
theorem vZ (n l r:Nd) (i:Nat) (s:Sf) (J pl pr:Nd) (pk kb:By) (a b:Int) (hj:bP l kb r=J) (hk:n.keys.getD i []=kb) (h:dk J=(pl,pk,pr)) (ha:n.kids.getD i 0=a) (hb:n.kids.getD (i+1) 0=b):(dh n i l r).run s=if bw J=true then
  ((aE a J).bind fun _=>.free b fun _=>.pure { n with keys:=n.keys.eraseIdx i,kids:=n.kids.eraseIdx (i+1) }).run s
 else ((aE a pl).bind fun _=>(aE b pr).bind fun _=>.pure { n with keys:=n.keys.set i pk }).run s:=by
 unfold dh;rw [hk,hj,h,ha,hb]
 split <;> rfl
theorem tF {l r:Nd} {b:By} {m m':Nat} (h1:l.Sm m) (h2:r.Sm m') (hb:b.length<=64):(bP l b r).Sm (m+m'+1):=by
 have k1:=h1.k;have k2:=h2.k;have c1:=h1.c;have c2:=h2.c;have d1:=h1.d;have d2:=h2.d;refine ⟨?_,by simp [bP];omega,by simp [bP];omega,fun k hk=>?_,fun c hc=>?_⟩
 ·unfold bP;simp only [List.length_append]
  split
  ·simp;omega
  ·simp;omega
 ·simp only [bP,BL] at hk;rcases hk with (hk | hk) | hk
  ·exact h1.kl k hk
  ·split at hk
   ·cases hk
   ·simp at hk;subst hk;exact hb
  ·exact h2.kl k hk
 ·simp only [bP,BL] at hc;rcases hc with hc | hc
  ·exact h1.cl c hc
  ·exact h2.cl c hc
theorem wv {l r:Nd} {b:By} (h1:l.Fit) (h2:r.Fit) (h:l.leaf=r.leaf):(bP l b r).Fit:=by
 refine ⟨fun hl=>?_,fun hl=>?_⟩
 ·have hl:l.leaf=true:=hl;have hr:r.leaf=true:=h ▸ hl;obtain ⟨e1,e2⟩:=h1.c hl;obtain ⟨e3,e4⟩:=h2.c hr;refine ⟨?_,by simp [bP,e2,e4]⟩;simp [bP,hl,e1,e3]
 ·have hl:l.leaf=false:=hl;have hr:r.leaf=false:=h ▸ hl;obtain ⟨e1,e2⟩:=h1.d hl;obtain ⟨e3,e4⟩:=h2.d hr;refine ⟨?_,by simp [bP,e2,e4]⟩;simp [bP,hl,e1,e3];omega
theorem ri {α:Type} (b:Int) (k:Unit->Pro α) (s:Sf):(Pro.free b k).run s=if cA s b=0 then (k ()).run (cX s b) else (cX s b,.err (cA s b)):=rfl
theorem hE (n l r:Nd) (i B gs gm gn:Nat) (s:Sf) (vl vr:BG) (w:Bz) (hS:ShIs w gs gm s) (hN:PN B gn n w) (hL:NdF (gn+1) w vl l) (hR:NdF (gn+1) w vr r) (h1:gs<B) (h2:gm<B) (h3:B<=gn)
  (hf1:l.Fit) (hf2:r.Fit) (hlr:l.leaf=r.leaf) (hs1:l.Sm 400) (hs2:r.Sm 400) (hn:n.Sm 1000) (hi:i<n.keys.length) (hi2:i+1<n.kids.length):
  Calls Tryz.prog 203 #[co gs,.pointer (some ⟨gn,0,none⟩),.int .i64 i,vl,vr] w fun e w'=>zD B gn w' e ((dh n i l r).run s).2/\ShIs w' gs gm ((dh n i l r).run s).1/\Ch (eY gs gm gn) w w':=by
 obtain ⟨kb,hkb⟩:∃ x,n.keys[i]=x:=⟨_,rfl⟩;obtain ⟨ka,hka⟩:∃ x,n.kids[i]=x:=⟨_,rfl⟩;obtain ⟨kc,hkc⟩:∃ x,n.kids[i+1]=x:=⟨_,rfl⟩;have hkl:kb.length<=64:=by rw [<- hkb];exact hn.kl _ (BE hi)
 have HJA:=Z (fun (w:Bz) (h1:NdF (gn+1) w vl l) (h2:NdF (gn+1) w vr r)=>sq l r kb (gn+1) vl vr w h1 h2 (hs1.bd (by decide)) (hs2.bd (by decide)));have HJS:=Z ((tF hs1 hs2 hkl).mono (show 400+400+1<=1000 by decide));have HJF:=Z (wv (b:=kb) hf1 hf2 hlr);obtain ⟨J,hJ⟩:∃ x,bP l kb r=x:=⟨_,rfl⟩;obtain ⟨⟨pl,pk,pr⟩,hpv⟩:∃ x,dk J=x:=⟨_,rfl⟩;have HRT:=Z (vZ n l r i s J pl pr pk kb ka kc hJ (by rw [Bt,Bv hi,hkb];rfl) hpv (by rw [Bt,Bv (by omega),hka];rfl) (by rw [Bt,Bv hi2,hkc];rfl));rw [hJ] at HJA HJS HJF;clear hJ;have HPS:=Z (qF HJS.out);rw [hpv] at HPS;have HKB:=Z hkb;have HKA:=Z hka;have HKC:=Z hkc;clear hkb hka hkc;have HPV:=Z hpv;clear hpv;have HLF:=Z hL;have HRF:=Z hR;obtain ⟨vk,vc,vd,rfl,j1,j2,j3⟩:=hL;obtain ⟨D1,d1,rfl,-,-⟩:=j1.cap;obtain ⟨D2,d2,rfl,-,-⟩:=j2.cap;obtain ⟨D3,d3,rfl,-,-⟩:=j3.cap;clear j1 j2 j3;obtain ⟨vk,vc,vd,rfl,j1,j2,j3⟩:=hR;obtain ⟨R1,f1,rfl,-,-⟩:=j1.cap;obtain ⟨R2,f2,rfl,-,-⟩:=j2.cap;obtain ⟨R3,f3,rfl,-,-⟩:=j3.cap;clear j1 j2 j3 hf1 hf2 hlr hs1 hs2;have hgn:gn<w.heap.size:=by obtain ⟨_,_,_,_,_,_,h,_⟩:=hN;exact aj h
 have HB2:=Z (show Below w.heap.size w ((w.alloc (ar l (.slice D1 l.keys.length d1) (.slice D2 l.cells.length d2) (.slice D3 l.kids.length d3))).alloc (ar r (.slice R1 r.keys.length f1) (.slice R2 r.cells.length f2) (.slice R3 r.kids.length f3))) from ((Below.refl _ w).alloc (Bw _) _).alloc (by simp) _);have HX2:=Z (show ((w.alloc (ar l (.slice D1 l.keys.length d1) (.slice D2 l.cells.length d2) (.slice D3 l.kids.length d3))).alloc (ar r (.slice R1 r.keys.length f1) (.slice R2 r.cells.length f2) (.slice R3 r.kids.length f3))).heap[w.heap.size]?=some (ar l (.slice D1 l.keys.length d1) (.slice D2 l.cells.length d2) (.slice D3 l.kids.length d3)) from am (ag rfl) _);have HY2:=Z (show ((w.alloc (ar l (.slice D1 l.keys.length d1) (.slice D2 l.cells.length d2) (.slice D3 l.kids.length d3))).alloc (ar r (.slice R1 r.keys.length f1) (.slice R2 r.cells.length f2) (.slice R3 r.kids.length f3))).heap[w.heap.size+1]?=some (ar r (.slice R1 r.keys.length f1) (.slice R2 r.cells.length f2) (.slice R3 r.kids.length f3)) from ag (by simp));have HS0:=Z hS;have HN0:=Z hN;have hsk:=hn.k;have hsd:=hn.d;clear hS hN;unfold co;go_enter Tryz.func203,Tryz.ntmps203;go_upto_region 1 with fail
 generalize hw1:(w.alloc (.cells #[.bool l.leaf,.slice D1 l.keys.length d1,.slice D2 l.cells.length d2,.slice D3 l.kids.length d3] 110)).alloc (.cells #[.bool r.leaf,.slice R1 r.keys.length f1,.slice R2 r.cells.length f2,.slice R3 r.kids.length f3] 110)=w2 at *;have hw2:(w.alloc (ar l (.slice D1 l.keys.length d1) (.slice D2 l.cells.length d2) (.slice D3 l.kids.length d3))).alloc (ar r (.slice R1 r.keys.length f1) (.slice R2 r.cells.length f2) (.slice R3 r.kids.length f3))=w2:=hw1;rw [hw2] at HB2 HX2 HY2;clear hw1 hw2;have HN2:=Z (HN0.out.keep HB2.out);have HS2:=Z (HS0.out.ch (S:=fun _=>False) (Ch.zK HB2.out) id id);have hn2:w.heap.size+1<w2.heap.size:=aj HY2.out;go_cut [11] from 18 to 27 (fun p wc=>∃ (gj:Nat) (vj:BG),p=.pointer (some ⟨gj,0,none⟩)/\w.heap.size+1<gj/\(∃ J1 x1 J2 x2 J3 x3,vj=.agg #[.bool J.leaf,.slice J1 J.keys.length x1,.slice J2 J.cells.length x2,.slice J3 J.kids.length x3]/\wc.heap[gj]?=some (ar J (.slice J1 J.keys.length x1) (.slice J2 J.cells.length x2) (.slice J3 J.kids.length x3)))/\NdF (gn+1) wc vj J/\Below w.heap.size w wc)
 case first=>
  obtain ⟨A1,c1,A2,c2,A3,c3,h0,k1,k2,k3,-⟩:=HN2.out;obtain ⟨n0,n1,n2,n3,n4⟩:=aa h0;obtain ⟨p0,p1,p2,p3,p4⟩:=aa HX2.out;obtain ⟨q0,q1,q2,q3,q4⟩:=aa HY2.out;have hne:n.keys≠[]:=by intro e;rw [e] at hi;simp at hi
  obtain ⟨b,off,c',he,-,-,-,hbl⟩:=k1.form hne;injection he with he1 he2 he3
  subst he1 he3;have ek:=k1.sl.Au hi;rw [HKB.out] at ek;have hi0:(0:Int)<=(i:Int):=by omega
  have hi1:(i:Int)<(n.keys.length:Int):=by omega
  clear h0 k1 k2 k3 he2;have HBA:=Z (show Below w.heap.size w (w2.alloc (ar Nd.zero (.slice none 0 0) (.slice none 0 0) (.slice none 0 0))).drew from (HB2.out.alloc HB2.out.size _).drew);have HZA:=Z (show (w2.alloc (ar Nd.zero (.slice none 0 0) (.slice none 0 0) (.slice none 0 0))).drew.heap[w2.heap.size]?=some (ar Nd.zero (.slice none 0 0) (.slice none 0 0) (.slice none 0 0)) from ag rfl);have hsA:(w2.alloc (ar Nd.zero (.slice none 0 0) (.slice none 0 0) (.slice none 0 0))).drew.heap.size=w2.heap.size+1:=(by simp);have hb2:b<w2.heap.size:=by omega
  have hgn2:gn<w2.heap.size:=by omega
  have HKW:=Z (show ∀ (wn:Bz),Below w2.heap.size w2 wn->wn.cell? ⟨w.heap.size,0,none⟩=some (.bool l.leaf)/\wn.cell? ⟨w.heap.size,1,none⟩=some (.slice D1 l.keys.length d1)/\wn.cell? ⟨w.heap.size,2,none⟩=some (.slice D2 l.cells.length d2)/\wn.cell? ⟨w.heap.size,3,none⟩=some (.slice D3 l.kids.length d3)/\wn.cell? ⟨w.heap.size+1,0,none⟩=some (.bool r.leaf)/\wn.cell? ⟨w.heap.size+1,1,none⟩=some (.slice R1 r.keys.length f1)/\wn.cell? ⟨w.heap.size+1,2,none⟩=some (.slice R2 r.cells.length f2)/\wn.cell? ⟨w.heap.size+1,3,none⟩=some (.slice R3 r.kids.length f3)/\wn.cell? ⟨gn,1,none⟩=some (.slice (some ⟨b,off,none⟩) n.keys.length c1)/\wn.cell? ⟨b,off+i,none⟩=some (.string (ap kb)) from fun wn h=>by
   have c:=fun (g o:Nat) (v:BG) (hg:g<w2.heap.size) (e:w2.cell? ⟨g,o,none⟩=some v)=>(h.cell (p:=⟨g,o,none⟩) hg).trans e
   exact ⟨c _ _ _ (by omega) p0,c _ _ _ (by omega) p1,c _ _ _ (by omega) p2,c _ _ _ (by omega) p3,c _ _ _ (by omega) q0,c _ _ _ (by omega) q1,c _ _ _ (by omega) q2,c _ _ _ (by omega) q3,c _ _ _ hgn2 n1,c _ _ _ hb2 ek⟩)
  go_region_held3 (fun wn=>wn.cell? ⟨w.heap.size,0,none⟩=some (.bool l.leaf)/\wn.cell? ⟨w.heap.size,1,none⟩=some (.slice D1 l.keys.length d1)/\wn.cell? ⟨w.heap.size,2,none⟩=some (.slice D2 l.cells.length d2)/\wn.cell? ⟨w.heap.size,3,none⟩=some (.slice D3 l.kids.length d3)/\wn.cell? ⟨w.heap.size+1,0,none⟩=some (.bool r.leaf)/\wn.cell? ⟨w.heap.size+1,1,none⟩=some (.slice R1 r.keys.length f1)/\wn.cell? ⟨w.heap.size+1,2,none⟩=some (.slice R2 r.cells.length f2)/\wn.cell? ⟨w.heap.size+1,3,none⟩=some (.slice R3 r.kids.length f3)/\wn.cell? ⟨gn,1,none⟩=some (.slice (some ⟨b,off,none⟩) n.keys.length c1)/\wn.cell? ⟨b,off+i,none⟩=some (.string (ap kb)))
   ((first | go_keep | exact HK.out))
   ((go_at_call 219
     first
     | (refine (HJA.out w2.drew (HLF.out.keep HB2.out.drew) (HRF.out.keep HB2.out.drew)).mono ?_
        rintro e w3 ⟨vj,rfl,⟨jk,jc,jd,rfl,i1,i2,i3⟩,hb⟩;have hs3:w2.heap.size<=w3.heap.size:=hb.size;have HJB:=Z (HB2.out.drew.trans (hb.mono HB2.out.drew.size));have HKS:=Z (fun (hb:Below w2.drew.heap.size w2.drew w3)=>HKW.out w3 (show Below w2.heap.size w2 w3 from ((Below.refl _ w2).drew).trans hb));have HK:=Z (HKS.out hb);obtain ⟨J1,x1,rfl,-,-⟩:=i1.cap;obtain ⟨J2,x2,rfl,-,-⟩:=i2.cap;obtain ⟨J3,x3,rfl,-,-⟩:=i3.cap;have HJN:=Z (show NdF w2.heap.size w3 (.agg #[.bool J.leaf,.slice J1 J.keys.length x1,.slice J2 J.cells.length x2,.slice J3 J.kids.length x3]) J from ⟨_,_,_,rfl,i1,i2,i3⟩);obtain ⟨s0,s1,s2,s3,s4,s5,s6,s7,s8,s9⟩:=HK.out;have u1:¬ (w.heap.size=w3.heap.size):=by omega
        have u2:¬ (w3.heap.size=w.heap.size):=by omega
        have u3:¬ (w.heap.size+1=w3.heap.size):=by omega
        have u4:¬ (w3.heap.size=w.heap.size+1):=by omega
        have u5:¬ (gn=w3.heap.size):=by omega
        have u6:¬ (w3.heap.size=gn):=by omega
        have u7:¬ (b=w3.heap.size):=by omega
        have u8:¬ (w3.heap.size=b):=by omega
        have o1:w.heap.size<w3.heap.size:=by omega
        have o2:w.heap.size+1<w3.heap.size:=by omega
        have o3:gn<w3.heap.size:=by omega
        have o4:b<w3.heap.size:=by omega
        clear i1 i2 i3 hb)
     | (refine (HJA.out (w2.alloc (ar Nd.zero (.slice none 0 0) (.slice none 0 0) (.slice none 0 0))).drew (HLF.out.keep HBA.out) (HRF.out.keep HBA.out)).mono ?_
        rintro e w3 ⟨vj,rfl,⟨jk,jc,jd,rfl,i1,i2,i3⟩,hb⟩;have hs3:w2.heap.size+1<=w3.heap.size:=hsA ▸ hb.size;have HJB:=Z (HBA.out.trans (hb.mono HBA.out.size));have HKS:=Z (fun (hb:Below (w2.alloc (ar Nd.zero (.slice none 0 0) (.slice none 0 0) (.slice none 0 0))).drew.heap.size (w2.alloc (ar Nd.zero (.slice none 0 0) (.slice none 0 0) (.slice none 0 0))).drew w3)=>HKW.out w3 (show Below w2.heap.size w2 w3 from (((Below.refl _ w2).alloc (Bw _) _).drew).trans (hb.mono (by rw [hsA];omega))));have HK:=Z (HKS.out hb);obtain ⟨J1,x1,rfl,-,-⟩:=i1.cap;obtain ⟨J2,x2,rfl,-,-⟩:=i2.cap;obtain ⟨J3,x3,rfl,-,-⟩:=i3.cap;have HJN:=Z (show NdF (w2.heap.size+1) w3 (.agg #[.bool J.leaf,.slice J1 J.keys.length x1,.slice J2 J.cells.length x2,.slice J3 J.kids.length x3]) J from ⟨_,_,_,rfl,hsA ▸ i1,hsA ▸ i2,hsA ▸ i3⟩);have HZN:=Z (af HZA.out hb);obtain ⟨m0,m1,m2,m3,m4⟩:=aa HZN.out;simp only [Nd.zero] at m0;have fm:=ab HZN.out;obtain ⟨s0,s1,s2,s3,s4,s5,s6,s7,s8,s9⟩:=HK.out;have u1:¬ (w.heap.size=w2.heap.size):=by omega
        have u2:¬ (w2.heap.size=w.heap.size):=by omega
        have u3:¬ (w.heap.size+1=w2.heap.size):=by omega
        have u4:¬ (w2.heap.size=w.heap.size+1):=by omega
        have u5:¬ (gn=w2.heap.size):=by omega
        have u6:¬ (w2.heap.size=gn):=by omega
        have u7:¬ (b=w2.heap.size):=by omega
        have u8:¬ (w2.heap.size=b):=by omega
        have o1:w.heap.size<w3.heap.size:=by omega
        have o2:w.heap.size+1<w3.heap.size:=by omega
        have o3:gn<w3.heap.size:=by omega
        have o4:b<w3.heap.size:=by omega
        clear i1 i2 i3 hb)))
  all_goals
   first
   | (go_wp2_with fail
      go_meet
      case rel=>exact ⟨w3.heap.size,_,rfl,by omega,⟨J1,x1,J2,x2,J3,x3,rfl,ag rfl⟩,(HJN.out.keep ((Below.refl _ w3).alloc (Bw _) _)).mono (by omega),HJB.out.alloc HJB.out.size _⟩)
   | (go_wp2_with fail
      go_meet
      case rel=>
       have hc:=bT w3 w2.heap.size (.bool J.leaf) (.slice J1 J.keys.length x1) (.slice J2 J.cells.length x2) (.slice J3 J.kids.length x3);exact ⟨w2.heap.size,_,rfl,by omega,⟨J1,x1,J2,x2,J3,x3,rfl,fT HZN.out J.leaf _ _ _⟩,(HJN.out.ch hc (fun k hk e=>by omega)).mono (by omega),HJB.out.trans (hc.below HJB.out.size (by omega))⟩)
 case rest=>
 obtain ⟨gj,vj,rfl,hgj,⟨J1,x1,J2,x2,J3,x3,rfl,hjb⟩,hjn,hb⟩:=hcut;have HJ3:=Z hjb;have HJN:=Z hjn;have HB3:=Z hb;have HN3:=Z (HN0.out.keep hb);have HS3:=Z (HS0.out.ch (S:=fun _=>False) (Ch.zK hb) id id);clear hjb hjn hb HN2 HS2 HX2 HY2 HB2;obtain ⟨p0,p1,p2,p3,p4⟩:=aa HJ3.out;go_wp2_with fail;refine (eC J _ wc HJN.out.val (HJS.out.bd (by decide))).mono ?_;rintro e w4 ⟨rfl,hb⟩;have HJ4:=Z (af HJ3.out hb);have HJN4:=Z (HJN.out.keep hb);have HB4:=Z (HB3.out.trans (hb.mono HB3.out.size));have HN4:=Z (HN3.out.keep hb);have HS4:=Z (HS3.out.ch (S:=fun _=>False) (Ch.zK hb) id id);clear hb p0 p1 p2 p3 p4 HJ3 HJN HB3 HN3 HS3;have hi0:(0:Int)<=(i:Int):=by omega
 have hia:(i:Int)<(n.kids.length:Int):=by omega
 have hib:(i:Int)+1<(n.kids.length:Int):=by omega
 have hic:(0:Int)<=(i:Int)+1:=by omega
 have hw1:IntKind.i64.wrap ((i:Int)+1)=(i:Int)+1:=by rw [BA];omega
 have htn:((i:Int)+1).toNat=i+1:=by omega
 cases hft:bw J
 ·have HR:=Z (HRT.out.trans (if_neg (by rw [hft];simp)));clear hft;obtain ⟨p0,p1,p2,p3,p4⟩:=aa HJ4.out;have HPA:=Z (oy J (gn+1) _ w4 HJN4.out HJF.out HJS.out);rw [HPV.out] at HPA;go_wp2_with fail;refine HPA.out.mono ?_;rintro e w2 ⟨vl,vr,rfl,hl,hr,hb⟩;obtain ⟨lk,lc,ld,rfl,l1,l2,l3⟩:=hl;obtain ⟨L1,e1,rfl,-,-⟩:=l1.cap;obtain ⟨L2,e2,rfl,-,-⟩:=l2.cap;obtain ⟨L3,e3,rfl,-,-⟩:=l3.cap;obtain ⟨rk,rc,rd,rfl,r1,r2,r3⟩:=hr;obtain ⟨S1,f4,rfl,-,-⟩:=r1.cap;obtain ⟨S2,f5,rfl,-,-⟩:=r2.cap;obtain ⟨S3,f6,rfl,-,-⟩:=r3.cap;have HB3:=Z (show Below w4.heap.size w4 ((w2.alloc (ar pl (.slice L1 pl.keys.length e1) (.slice L2 pl.cells.length e2) (.slice L3 pl.kids.length e3))).alloc (ar pr (.slice S1 pr.keys.length f4) (.slice S2 pr.cells.length f5) (.slice S3 pr.kids.length f6))) from (hb.alloc hb.size _).alloc (by have:=hb.size;simp;omega) _);have HL3:=Z (show ((w2.alloc (ar pl (.slice L1 pl.keys.length e1) (.slice L2 pl.cells.length e2) (.slice L3 pl.kids.length e3))).alloc (ar pr (.slice S1 pr.keys.length f4) (.slice S2 pr.cells.length f5) (.slice S3 pr.kids.length f6))).heap[w2.heap.size]?=some (ar pl (.slice L1 pl.keys.length e1) (.slice L2 pl.cells.length e2) (.slice L3 pl.kids.length e3)) from am (ag rfl) _);have HR3:=Z (show ((w2.alloc (ar pl (.slice L1 pl.keys.length e1) (.slice L2 pl.cells.length e2) (.slice L3 pl.kids.length e3))).alloc (ar pr (.slice S1 pr.keys.length f4) (.slice S2 pr.cells.length f5) (.slice S3 pr.kids.length f6))).heap[w2.heap.size+1]?=some (ar pr (.slice S1 pr.keys.length f4) (.slice S2 pr.cells.length f5) (.slice S3 pr.kids.length f6)) from ag (by simp));have HLF3:=Z ((show NdF (gn+1) w4 (.agg #[.bool pl.leaf,.slice L1 pl.keys.length e1,.slice L2 pl.cells.length e2,.slice L3 pl.kids.length e3]) pl from ⟨_,_,_,rfl,l1,l2,l3⟩).keep HB3.out);have HRF3:=Z ((show NdF (gn+1) w4 (.agg #[.bool pr.leaf,.slice S1 pr.keys.length f4,.slice S2 pr.cells.length f5,.slice S3 pr.kids.length f6]) pr from ⟨_,_,_,rfl,r1,r2,r3⟩).keep HB3.out);have hsz2:=hb.size;have hsz4:=HB4.out.size;clear hb p0 p1 p2 p3 p4 l1 l2 l3 r1 r2 r3 HPA;go_upto_region 4 with fail
  generalize hw2:(w2.alloc (.cells #[.bool pl.leaf,.slice L1 pl.keys.length e1,.slice L2 pl.cells.length e2,.slice L3 pl.kids.length e3] 110)).alloc (.cells #[.bool pr.leaf,.slice S1 pr.keys.length f4,.slice S2 pr.cells.length f5,.slice S3 pr.kids.length f6] 110)=w3 at *;have hw3:(w2.alloc (ar pl (.slice L1 pl.keys.length e1) (.slice L2 pl.cells.length e2) (.slice L3 pl.kids.length e3))).alloc (ar pr (.slice S1 pr.keys.length f4) (.slice S2 pr.cells.length f5) (.slice S3 pr.kids.length f6))=w3:=hw2;rw [hw3] at HB3 HL3 HR3 HLF3 HRF3;clear hw2 hw3;have HBW:=Z (HB4.out.trans (HB3.out.mono HB4.out.size));have HS3:=Z (HS4.out.ch (S:=fun _=>False) (Ch.zK HB3.out) id id);have HN3:=Z (HN4.out.keep HB3.out);have hsz3:=HB3.out.size;obtain ⟨p0,p1,p2,p3,p4⟩:=aa HL3.out;obtain ⟨A1,c1,A2,c2,A3,c3,h0,k1,k2,k3,m1,m2,m3⟩:=HN3.out;have H0:=Z h0;have K1:=Z k1;have K2:=Z k2;have K3:=Z k3;have M2:=Z m2;have M3:=Z m3;obtain ⟨n0,n1,n2,n3,n4⟩:=aa h0;obtain ⟨b,off,c',he,hbl,hcells⟩:=k3.sl.zQ (show i<n.kids.length from (by omega));injection he with he1 he2 he3
  subst he1 he3;have e0:w3.cell? ⟨b,off+(i),none⟩=some (.int .i64 (n.kids[i]'(by omega))):=by simpa [iC] using hcells 0 _ rfl
  rw [HKA.out] at e0;clear h0 k1 k2 k3 m1 m2 m3 hcells he2;have hit:i<n.kids.length:=by omega
  go_upto_region 4 with fail
  go_cut [15] from 37 to 48 (fun ev wc=>ev=dW ((aE ka pl).run s).2/\ShIs wc gs gm ((aE ka pl).run s).1/\Ch (fun k=>k=gs\/k=gm) w3 wc)
  case first=>
   go_region_law (first
    | (go_simp
       go_at_call 66;refine (bE ka pl _ gs gm s w3.drew (HS3.out.ch (S:=fun _=>False) (Ch.refl _ w3).drew id id) (HLF3.out.ch (S:=fun _=>False) (Ch.refl _ w3).drew (fun _ _=>id)).val (HPS.out.1.bd (by decide))).mono ?_;rintro e w5 ⟨rfl,hs,hc⟩;have HS5:=Z hs;have HH5:=Z ((Ch.refl _ w3).drew.trans hc);clear hs hc))
   all_goals
    go_wp2_with fail;go_meet
    case rel=>exact ⟨rfl,HS5.out,HH5.out⟩
  case rest=>
  obtain ⟨rfl,hs5,hh5⟩:=hcut;have HS5:=Z hs5;have HN5:=Z (HN3.out.ch hh5 (fun k hk e=>by omega) (by omega));have HC5:=Z (show Ch (eY gs gm gn) w wc from (Ch.zK HBW.out).trans (fR hh5));have HR5:=Z (hh5.keep HR3.out (by omega));have HRF5:=Z (HRF3.out.ch hh5 (fun k hk e=>by omega));have hsz5:=hh5.size;clear hs5 hh5 n0 n1 n2 n3 n4 p0 p1 p2 p3 p4 e0 H0 K1 K2 K3 M2 M3;have hnz:=Pro.NZ.run (aE ka pl) s;obtain ⟨⟨s5,a⟩,hx⟩:∃ x,(aE ka pl).run s=x:=⟨_,rfl⟩;rw [hx] at HS5 hnz ⊢;rcases a with u | x
  case err=>
   have hx0:¬ x=0:=hnz x (cQ _ _) rfl;have hx1:(x == 0)=false:=by simpa using hx0
   have HV:=Z (HR.out.trans (aq hx));simp only [dW];go_wp2_with fail;go_ret;rw [HV.out];exact ⟨⟨rfl,n,HN5.out⟩,HS5.out,HC5.out⟩
  have HR2:=Z (HR.out.trans (ah hx));simp only [dW];clear hnz hx;obtain ⟨A1,c1,A2,c2,A3,c3,h0,k1,k2,k3,m1,m2,m3⟩:=HN5.out;have H0:=Z h0;have K1:=Z k1;have K2:=Z k2;have K3:=Z k3;have M2:=Z m2;have M3:=Z m3;obtain ⟨n0,n1,n2,n3,n4⟩:=aa h0;obtain ⟨b,off,c',he,hbl,hcells⟩:=k3.sl.zQ (show i+1<n.kids.length from hi2);injection he with he1 he2 he3
  subst he1 he3;have e0:wc.cell? ⟨b,off+(i+1),none⟩=some (.int .i64 (n.kids[i+1]'hi2)):=by simpa [iC] using hcells 0 _ rfl
  rw [HKC.out] at e0;clear h0 k1 k2 k3 m1 m2 m3 hcells he2;have fn:=ab H0.out;go_wp2_with fail;refine (fK n.keys _ wc K1.out.sl (by omega)).mono ?_;rintro e w7 ⟨v7,rfl,ho,hb⟩;obtain ⟨g7,d7,rfl,hg7,hg7'⟩:=ho.zS (by intro e;rw [e] at hi;simp at hi);have HO7:=Z ho;have HB7:=Z hb;have hsz7:=hb.size;clear ho hb n0 n1 n2 n3 n4 fn e0;have H7:=Z (af H0.out HB7.out);obtain ⟨n0,n1,n2,n3,n4⟩:=aa H7.out;have fn:=ab H7.out;have HC8:=Z ((Ch.refl (fun k=>k=gn) w7).setCell (p:=⟨gn,1,none⟩) rfl (.slice (some ⟨g7,0,none⟩) n.keys.length d7));have H8:=Z (show (w7.setCell ⟨gn,1,none⟩ (.slice (some ⟨g7,0,none⟩) n.keys.length d7)).heap[gn]?=some (ar n (.slice (some ⟨g7,0,none⟩) n.keys.length d7) (.slice A2 n.cells.length c2) (.slice (some ⟨b,off,none⟩) n.kids.length c3)) from ai H7.out 1 _);go_upto_region 8 with fail
  generalize w7.setCell ⟨gn,1,none⟩ (.slice (some ⟨g7,0,none⟩) n.keys.length d7)=w8 at *;have hsz8:=HC8.out.size;have hgw:=HN5.out.out;have HO8:=Z (HO7.out.ch HC8.out (fun k hk e=>by have hk:some g7=some k:=hk;injection hk with hk;omega));clear n0 n1 n2 n3 n4 fn H7 HO7;obtain ⟨n0,n1,n2,n3,n4⟩:=aa H8.out;have HOS:=Z (HO8.out.set aG hi pk);rw [Nat.mul_one] at HOS;obtain ⟨cur,hg8,hcz⟩:∃ cur:Array BG,w8.heap[g7]?=some (.cells cur 9 (0,0))/\n.keys.length<=cur.size:=by
   rcases HO8.out.2 with ⟨hv,_⟩ | ⟨g',cap,cur,hv,_,hg,hnc,hm,hc,ht⟩
   ·cases hv
   ·injection hv with e1 e2 e3
    injection e1 with e1
    injection e1 with e1
    subst e1;exact ⟨cur,hg,by rw [hc];omega⟩
  have ek:w8.cell? ⟨g7,i,none⟩=some (cur[i]'(by omega)):=by rw [ae hg8,BD (by omega)]
  have fk:=ab hg8 i;have hi1:(i:Int)<(n.keys.length:Int):=by omega
  have HC9:=Z ((Ch.refl (fun k=>k=g7) w8).setCell (p:=⟨g7,i,none⟩) rfl (.string (ap pk)));have HOS2:=Z (show Own sC 1 9 wc.heap.size (w8.setCell ⟨g7,i,none⟩ (.string (ap pk))) (.slice (some ⟨g7,0,none⟩) n.keys.length d7) (n.keys.set i pk) from HOS.out);clear hg8 HOS;go_upto_region 9 with fail
  generalize w8.setCell ⟨g7,i,none⟩ (.string (ap pk))=w9 at *;have hsz9:=HC9.out.size;have HL9:=Z (((Ch.zK (S:=fun k=>k=gn\/k=g7) HB7.out).trans (HC8.out.mono (fun _ _ e=>.inl e))).trans (HC9.out.mono (fun _ _ e=>.inr e)));have HLN:=Z (show Ch (fun k=>k=gn) wc w9 from ((Ch.zK (S:=fun k=>k=gn) HB7.out).trans HC8.out).then HC9.out (fun k e=>.inr (by omega)));have H9:=Z (HC9.out.keep H8.out (by omega));clear n0 n1 n2 n3 n4 ek fk H8 hcz;have HS9:=Z (HS5.out.ch HLN.out (by omega) (by omega));have HP9:=Z (show PN B gn { n with keys:=n.keys.set i pk } w9 from PN.mk' H9.out (HOS2.out.zN aG |>.mono (by omega)) (K2.out.Az HLN.out M2.out) (K3.out.Az HLN.out M3.out) (fun k hk e=>by have hk:some g7=some k:=hk;injection hk with hk;omega) M2.out M3.out);have HCX:=Z (HC5.out.trans (HLN.out.mono (S':=eY gs gm gn) (fun _ _ e=>.inr (.inr e))));have HR9:=Z (HLN.out.keep HR5.out (by omega));have HRF9:=Z (HRF5.out.ch HLN.out (fun k hk e=>by omega));have K39:=Z (K3.out.Az HLN.out M3.out);have fn:=ab H9.out;obtain ⟨n0,n1,n2,n3,n4⟩:=aa H9.out;obtain ⟨q0,q1,q2,q3,q4⟩:=aa HR9.out;obtain ⟨b',off',c',he,hbl',hcells⟩:=K39.out.sl.zQ hi2;injection he with he1 he2 he3
  injection he1 with he1
  injection he1 with he1 he4
  subst he1 he3 he4;have e0:w9.cell? ⟨b,off+(i+1),none⟩=some (.int .i64 (n.kids[i+1]'hi2)):=by simpa [iC] using hcells 0 _ rfl
  rw [HKC.out] at e0;clear hcells he2;have HSD:=Z (HS9.out.ch (S:=fun _=>False) (Ch.refl _ w9).drew id id);have HRD:=Z ((HRF9.out.ch (S:=fun _=>False) (Ch.refl _ w9).drew (fun _ _=>id)).val);go_region_law (first
   | (go_simp
      go_at_call 66;refine (bE kc pr _ gs gm s5 w9.drew HSD.out HRD.out (HPS.out.2.bd (by decide))).mono ?_;rintro e wf ⟨rfl,hs,hc⟩;have HSf:=Z hs;have HHf:=Z ((Ch.refl _ w9).drew.trans hc);clear hs hc))
  all_goals
   have HPf:=Z (HP9.out.ch HHf.out (fun k hk e=>by omega) (by omega));have HCf:=Z (HCX.out.trans (fR HHf.out));clear n0 n1 n2 n3 n4 q0 q1 q2 q3 q4 e0;have hnz:=Pro.NZ.run (aE kc pr) s5;obtain ⟨⟨s6,a⟩,hx⟩:∃ x,(aE kc pr).run s5=x:=⟨_,rfl⟩;rw [hx] at HSf hnz ⊢;rcases a with u | x
   case ok=> have HV:=Z (HR2.out.trans (ah hx));simp only [dW];go_wp2_with fail;go_ret;rw [HV.out];exact ⟨⟨rfl,HPf.out⟩,HSf.out,HCf.out⟩
   case err=> have HV:=Z (HR2.out.trans (aq hx));simp only [dW];go_wp2_with fail;go_ret;rw [HV.out];exact ⟨⟨rfl,_,HPf.out⟩,HSf.out,HCf.out⟩
 ·have HR:=Z (HRT.out.trans (if_pos hft));clear hft;obtain ⟨p0,p1,p2,p3,p4⟩:=aa HJ4.out;obtain ⟨A1,c1,A2,c2,A3,c3,h0,k1,k2,k3,m1,m2,m3⟩:=HN4.out;have H0:=Z h0;have K1:=Z k1;have K2:=Z k2;have K3:=Z k3;have M2:=Z m2;have M3:=Z m3;obtain ⟨n0,n1,n2,n3,n4⟩:=aa h0;obtain ⟨b,off,c',he,hbl,hcells⟩:=k3.sl.zQ (show i<n.kids.length from (by omega));injection he with he1 he2 he3
  subst he1 he3;have e0:w4.cell? ⟨b,off+(i),none⟩=some (.int .i64 (n.kids[i]'(by omega))):=by simpa [iC] using hcells 0 _ rfl
  rw [HKA.out] at e0;clear h0 k1 k2 k3 m1 m2 m3 hcells he2;have hit:i<n.kids.length:=by omega
  have hi1:(i:Int)<(n.keys.length:Int):=by omega
  go_upto_region 10 with fail
  go_cut [16] from 76 to 87 (fun ev wc=>ev=dW ((aE ka J).run s).2/\ShIs wc gs gm ((aE ka J).run s).1/\Ch (fun k=>k=gs\/k=gm) w4 wc)
  case first=>
   go_region_law (first
    | (go_simp
       go_at_call 66;refine (bE ka J _ gs gm s w4.drew (HS4.out.ch (S:=fun _=>False) (Ch.refl _ w4).drew id id) (HJN4.out.ch (S:=fun _=>False) (Ch.refl _ w4).drew (fun _ _=>id)).val (HJS.out.bd (by decide))).mono ?_;rintro e w5 ⟨rfl,hs,hc⟩;have HS5:=Z hs;have HH5:=Z ((Ch.refl _ w4).drew.trans hc);clear hs hc))
   all_goals
    go_wp2_with fail;go_meet
    case rel=>exact ⟨rfl,HS5.out,HH5.out⟩
  case rest=>
  obtain ⟨rfl,hs5,hh5⟩:=hcut;have HS5:=Z hs5;have HN5:=Z (HN4.out.ch hh5 (fun k hk e=>by omega) (by omega));have HC5:=Z (show Ch (eY gs gm gn) w wc from (Ch.zK HB4.out).trans (fR hh5));clear hs5 hh5 n0 n1 n2 n3 n4 p0 p1 p2 p3 p4 e0 H0 K1 K2 K3 M2 M3;have hnz:=Pro.NZ.run (aE ka J) s;obtain ⟨⟨s5,a⟩,hx⟩:∃ x,(aE ka J).run s=x:=⟨_,rfl⟩;rw [hx] at HS5 hnz ⊢;rcases a with u | x
  case err=>
   have hx0:¬ x=0:=hnz x (cQ _ _) rfl;have hx1:(x == 0)=false:=by simpa using hx0
   have HV:=Z (HR.out.trans (aq hx));simp only [dW];go_wp2_with fail;go_ret;rw [HV.out];exact ⟨⟨rfl,n,HN5.out⟩,HS5.out,HC5.out⟩
  have HR2:=Z (HR.out.trans (ah hx));simp only [dW];clear hnz hx;obtain ⟨A1,c1,A2,c2,A3,c3,h0,k1,k2,k3,m1,m2,m3⟩:=HN5.out;have H0:=Z h0;have K1:=Z k1;have K2:=Z k2;have K3:=Z k3;have M2:=Z m2;have M3:=Z m3;obtain ⟨n0,n1,n2,n3,n4⟩:=aa h0;obtain ⟨b,off,c',he,hbl,hcells⟩:=k3.sl.zQ (show i+1<n.kids.length from hi2);injection he with he1 he2 he3
  subst he1 he3;have e0:wc.cell? ⟨b,off+(i+1),none⟩=some (.int .i64 (n.kids[i+1]'hi2)):=by simpa [iC] using hcells 0 _ rfl
  rw [HKC.out] at e0;clear h0 k1 k2 k3 m1 m2 m3 hcells he2;have fn:=ab H0.out;have hgw:=HN5.out.out;go_wp2_with fail;refine (fK n.keys _ wc K1.out.sl (by omega)).mono ?_;rintro e w7 ⟨v7,rfl,ho,hb⟩;obtain ⟨g7,d7,rfl,hg7,hg7'⟩:=ho.zS (by intro e;rw [e] at hi;simp at hi);have HO7:=Z ho;have HB7:=Z hb;have hsz7:=hb.size;clear ho hb n0 n1 n2 n3 n4 fn e0;obtain ⟨n0,n1,n2,n3,n4⟩:=aa (af H0.out HB7.out);have HDE:=Z (rj n.keys i wc.heap.size g7 d7 w7 HO7.out hi (by omega));go_wp2_with fail;refine HDE.out.mono ?_;rintro e w8 ⟨rfl,ho,hg⟩;have HB8:=Z (HB7.out.grown hg (by omega) (fun k hk=>by injection hk with hk;omega));have HS8:=Z (ho.zN aG);have hsz8:=HB8.out.size;clear ho hg HO7 HB7 HDE n0 n1 n2 n3 n4;have H8:=Z (af H0.out HB8.out);obtain ⟨n0,n1,n2,n3,n4⟩:=aa H8.out;have fn:=ab H8.out;generalize n.keys.length - 1=L1 at *;have HC9:=Z ((Ch.refl (fun k=>k=gn) w8).setCell (p:=⟨gn,1,none⟩) rfl (.slice (some ⟨g7,0,none⟩) L1 d7));have H9:=Z (show (w8.setCell ⟨gn,1,none⟩ (.slice (some ⟨g7,0,none⟩) L1 d7)).heap[gn]?=some (ar n (.slice (some ⟨g7,0,none⟩) L1 d7) (.slice A2 n.cells.length c2) (.slice (some ⟨b,off,none⟩) n.kids.length c3)) from ai H8.out 1 _);go_upto_region 15 with fail
  generalize w8.setCell ⟨gn,1,none⟩ (.slice (some ⟨g7,0,none⟩) L1 d7)=w9 at *;have hsz9:=HC9.out.size;have HL9:=Z ((Ch.zK (S:=fun k=>k=gn) HB8.out).trans HC9.out);have Q1:=Z (HS8.out.ch HC9.out (fun k hk e=>by omega));have Q2:=Z (K2.out.Az HL9.out M2.out);have Q3:=Z (K3.out.Az HL9.out M3.out);have HC10:=Z (HC5.out.trans (HL9.out.mono (S':=eY gs gm gn) (fun _ _ e=>.inr (.inr e))));have HS10:=Z (HS5.out.ch HL9.out (by omega) (by omega));clear n0 n1 n2 n3 n4 fn H8 HS8;obtain ⟨n0,n1,n2,n3,n4⟩:=aa H9.out;have fn:=ab H9.out;go_wp2_with fail;refine (nt n.kids _ w9 Q3.out.sl (by omega)).mono ?_;rintro e wa ⟨va,rfl,ho,hb⟩;obtain ⟨ga,da,rfl,hga,hga'⟩:=ho.zS (by intro e;rw [e] at hi2;simp at hi2);have HOa:=Z ho;have HBa:=Z hb;have hsza:=hb.size;clear ho hb n0 n1 n2 n3 n4 fn;obtain ⟨n0,n1,n2,n3,n4⟩:=aa (af H9.out HBa.out);have HDE:=Z (wR n.kids (i+1) w9.heap.size ga da wa HOa.out hi2 (by omega));rw [show ((((i+1:Nat):Int))+1)=(i:Int)+2 by omega,show ((i+1:Nat):Int)=(i:Int)+1 by omega] at HDE;have hw2:IntKind.i64.wrap ((i:Int)+2)=(i:Int)+2:=by rw [BA];omega
  go_wp2_with fail;refine HDE.out.mono ?_;rintro e wb ⟨rfl,ho,hg⟩;have HBb:=Z (HBa.out.grown hg (by omega) (fun k hk=>by injection hk with hk;omega));have HSb:=Z (ho.zN ax);have hszb:=HBb.out.size;clear ho hg HOa HBa HDE n0 n1 n2 n3 n4;have Hb:=Z (af H9.out HBb.out);obtain ⟨n0,n1,n2,n3,n4⟩:=aa Hb.out;have fn:=ab Hb.out;generalize n.kids.length - 1=L3 at *;have HCc:=Z ((Ch.refl (fun k=>k=gn) wb).setCell (p:=⟨gn,3,none⟩) rfl (.slice (some ⟨ga,0,none⟩) L3 da));have Hc:=Z (show (wb.setCell ⟨gn,3,none⟩ (.slice (some ⟨ga,0,none⟩) L3 da)).heap[gn]?=some (ar n (.slice (some ⟨g7,0,none⟩) L1 d7) (.slice A2 n.cells.length c2) (.slice (some ⟨ga,0,none⟩) L3 da)) from ai Hb.out 3 _);go_upto_region 16 with fail
  generalize wb.setCell ⟨gn,3,none⟩ (.slice (some ⟨ga,0,none⟩) L3 da)=wd at *;have HLc:=Z ((Ch.zK (S:=fun k=>k=gn) HBb.out).trans HCc.out);have HSd:=Z (HS10.out.ch HLc.out (by omega) (by omega))
  have HPd:=Z (show PN B gn { n with keys:=n.keys.eraseIdx i,kids:=n.kids.eraseIdx (i+1) } wd from PN.mk' Hc.out ((Q1.out.mono (by omega)).Az HLc.out (fun k hk e=>by have:=Q1.out.far k hk;omega)) (Q2.out.Az HLc.out M2.out) ((HSb.out.mono (by omega)).Az HCc.out (fun k hk e=>by have:=HSb.out.far k hk;omega))
   (fun k hk e=>by have:=Q1.out.far k hk;omega) M2.out (fun k hk e=>by have:=HSb.out.far k hk;omega))
  have HCd:=Z (HC10.out.trans (HLc.out.mono (S':=eY gs gm gn) (fun _ _ e=>.inr (.inr e))));have HRf:=Z (HR2.out.trans (ri kc _ s5));have hszd:=HLc.out.size;clear n0 n1 n2 n3 n4 fn Hb HSb Q1 Q2 Q3 HC9 H9 HL9 HC10 HS10 HCc Hc HLc HR2;go_wp2_with fail;refine (gW gs gm s5 kc wd HSd.out).mono ?_;rintro e we ⟨rfl,hs,hc⟩;have HSe:=Z hs;have HPe:=Z (HPd.out.ch hc (fun k hk e=>by omega) (by omega));have HCe:=Z (HCd.out.trans (fR hc));clear hs hc;by_cases hfe:cA s5 kc=0
  ·have HV:=Z (HRf.out.trans (if_pos hfe));rw [hfe];go_wp2_with fail;go_ret;rw [HV.out];exact ⟨⟨rfl,HPe.out⟩,HSe.out,HCe.out⟩
  ·have HV:=Z (HRf.out.trans (if_neg hfe));generalize cA s5 kc=fe at *;go_wp2_with fail;go_ret;rw [HV.out];exact ⟨⟨rfl,_,HPe.out⟩,HSe.out,HCe.out⟩
def gC (e:Int):Int:=if e=0 then 30 else e
theorem eH (x:Int) (w:Bz):Calls Tryz.prog 202 #[.int .i64 x] w fun e w'=>e=.returned (.int .i64 (gC x))/\w=w':=by
 go_enter Tryz.func202,Tryz.ntmps202;by_cases h:x=0
 ·have HV:=Z (show gC x=30 by unfold gC;rw [if_pos h]);have h1:(x == 0)=true:=by simpa using h
  go_wp2_with fail;go_ret;exact ⟨by rw [HV.out];rfl,rfl⟩
 ·have HV:=Z (show gC x=x by unfold gC;rw [if_neg h]);have h1:(x == 0)=false:=by simpa using h
  go_wp2_with fail;go_ret;exact ⟨by rw [HV.out];rfl,rfl⟩
theorem mA (n c:Nd) (i B gs gm gn:Nat) (s:Sf) (vC:BG) (w:Bz) (hS:ShIs w gs gm s) (hN:PN B gn n w) (hC:NdF (gn+1) w vC c) (h1:gs<B) (h2:gm<B) (h3:B<=gn)
  (hf:c.Fit) (hs:c.Sm 400) (hnf:n.Fit) (hg:aD n=true) (hn:n.Sm 229) (hl:n.leaf=false) (hi:i<n.kids.length):
  Calls Tryz.prog 168 #[co gs,.pointer (some ⟨gn,0,none⟩),.int .i64 i,vC] w fun e w'=>zD B gn w' e ((bg n i c).run s).2/\ShIs w' gs gm ((bg n i c).run s).1/\Ch (eY gs gm gn) w w':=by
 have hkl:n.kids.length=n.keys.length+1:=(hnf.d hl).1;have hk0:0<n.keys.length:=List.length_pos_iff.2 (aQ hg hl).2.1;have HNF:=Z hC;have HSC:=Z hs;have HFC:=Z hf;have HSN:=Z hn;have HPT:=Z (fun (s:Sf) (w:Bz) (hS:ShIs w gs gm s) (hN:PN B gn n w) (hC:NdF (gn+1) w vC c)=>iZ n c i B gs gm gn s vC w hS hN (hC.mono (by omega)) h1 h2 h3 hf (hs.mono (by decide)) (hn.mono (by decide)) hi (by omega));obtain ⟨vk,vc,vd,rfl,j1,j2,j3⟩:=hC;obtain ⟨D1,d1,rfl,-,-⟩:=j1.cap;obtain ⟨D2,d2,rfl,-,-⟩:=j2.cap;obtain ⟨D3,d3,rfl,-,-⟩:=j3.cap;have HBL:=Z (show Below w.heap.size w (w.alloc (ar c (.slice D1 c.keys.length d1) (.slice D2 c.cells.length d2) (.slice D3 c.kids.length d3))) from (Below.refl _ w).alloc (Bw _) _);have HX1:=Z (ag (w0:=w) (g:=w.heap.size) (o:=ar c (.slice D1 c.keys.length d1) (.slice D2 c.cells.length d2) (.slice D3 c.kids.length d3)) rfl);have HS0:=Z hS;have HN0:=Z hN;have hgn:gn<w.heap.size:=hN.out;clear j1 j2 j3 hS hN hf hs hn hnf;have hck:=HSC.out.k;have HKL:=Z hkl;have hkb:n.kids.length<=230:=HSN.out.d;have hkk:n.keys.length<=229:=HSN.out.k;clear hkl;unfold co;go_enter Tryz.func168,Tryz.ntmps168;go_upto_region 1 with fail
 generalize hw1:w.alloc (.cells #[.bool c.leaf,.slice D1 c.keys.length d1,.slice D2 c.cells.length d2,.slice D3 c.kids.length d3] 110)=w1 at *;have hw2:w.alloc (ar c (.slice D1 c.keys.length d1) (.slice D2 c.cells.length d2) (.slice D3 c.kids.length d3))=w1:=hw1;rw [hw2] at HBL HX1;clear hw1 hw2;have HNF1:=Z (HNF.out.keep HBL.out);have HS1:=Z (HS0.out.ch (S:=fun _=>False) (Ch.zK HBL.out) id id);have HN1:=Z (HN0.out.keep HBL.out);have HFI:=Z (fun (w':Bz) (h:Below w1.heap.size w1 w')=>eC c _ w' (HNF1.out.keep h).val (HSC.out.bd (by decide)));have HTS:=Z (fun (w':Bz) (h:Below w1.heap.size w1 w')=>fW c _ w' (HNF1.out.keep h).val (HSC.out.bd (by decide)));have hw10:w.heap.size<w1.heap.size:=aj HX1.out;obtain ⟨a0,a1,a2,a3,a4⟩:=aa HX1.out;have HGR:=Z (show gO c=((c.leaf && decide (0<c.keys.length) && !bw c) || (!c.leaf && !bw c)) by
  unfold gO;cases c.keys <;> simp)
 cases hcl:c.leaf
 ·rw [hcl] at a0;have HGR2:=Z (show gO c=!bw c by rw [HGR.out,hcl];simp);have HCL:=Z hcl;rw [hcl] at HFI HTS HNF1;go_wp2_with fail;refine (HFI.out w1 (Below.refl _ _)).mono ?_;rintro e w2 ⟨rfl,hb⟩;have HK2:=Z hb;clear hb a0 a1 a2 a3 a4;obtain ⟨a0,a1,a2,a3,a4⟩:=aa (af HX1.out HK2.out);rw [hcl] at a0;cases hft:bw c
  ·rw [hft] at HGR2;have HV:=Z (show bg n i c=eh n i c by unfold bg;rw [HGR2.out];rfl);have HN2:=Z (HN1.out.keep HK2.out);have HS2:=Z (HS1.out.ch (S:=fun _=>False) (Ch.zK HK2.out) id id);have HNF2:=Z (HNF1.out.keep HK2.out);have HPX:=Z (HPT.out s w2 HS2.out HN2.out (by rw [HCL.out];exact HNF2.out));rw [HCL.out] at HPX;unfold co at HPX;go_wp2_with fail;refine HPX.out.mono ?_;rintro e w3 ⟨hp,hs,hc⟩;have HS3:=Z hs;have HC3:=Z (((Ch.zK (S:=eY gs gm gn) HBL.out).trans (Ch.zK HK2.out)).trans hc);clear hs hc a0 a1 a2 a3 a4;obtain ⟨⟨s5,a⟩,hx⟩:∃ x,(eh n i c).run s=x:=⟨_,rfl⟩;rw [hx] at HS3 hp;have HX:=Z hx;clear hx;rcases a with m | x
   case ok=> obtain ⟨rfl,hp⟩:=hp;have HP3:=Z hp;clear hp;go_wp2_with fail;go_ret;rw [HV.out,HX.out];exact ⟨⟨rfl,HP3.out⟩,HS3.out,HC3.out⟩
   case err=> obtain ⟨rfl,m,hp⟩:=hp;have HP3:=Z hp;clear hp;go_wp2_with fail;go_ret;rw [HV.out,HX.out];exact ⟨⟨rfl,m,HP3.out⟩,HS3.out,HC3.out⟩
  ·rw [hft] at HGR2;go_wp2_with fail;refine (HTS.out w2 HK2.out).mono ?_;rintro e w3 ⟨rfl,hb⟩;have HK3:=Z (HK2.out.trans (hb.mono HK2.out.size));clear hb a0 a1 a2 a3 a4;obtain ⟨a0,a1,a2,a3,a4⟩:=aa (af HX1.out HK3.out);rw [HCL.out] at a0;have HBW:=Z (HBL.out.trans (HK3.out.mono HBL.out.size));have HN3:=Z (HN1.out.keep HK3.out);have HS3:=Z (HS1.out.ch (S:=fun _=>False) (Ch.zK HK3.out) id id);have HNF3:=Z (HNF1.out.keep HK3.out)
   have HST:=Z (show bg n i c=if 77<=bf c then (aE (n.kids.getD i 0) c).bind fun _=>.pure n
    else if 0<i then (bl (n.kids.getD (i - 1) 0)).bind fun l=>if l.leaf=c.leaf then dh n (i - 1) l c else .fail 30
    else (bl (n.kids.getD 1 0)).bind fun r=>if r.leaf=c.leaf then dh n 0 c r else .fail 30 by
    unfold bg;rw [HGR2.out];rfl)
   have hgb:w.heap.size<w3.heap.size:=aj (af HX1.out HK3.out);by_cases hsz:77<=bf c
   ·have hsz1:(77:Int)<=(bf c:Int):=by omega
    obtain ⟨kd,hkd⟩:∃ x,n.kids[i]=x:=⟨_,rfl⟩;have HKD:=Z hkd
    have HRU:=Z (show (bg n i c).run s=((aE kd c).bind fun _=>.pure n).run s by
     rw [HST.out,if_pos hsz,Bt,Bv hi,<- HKD.out];rfl)
    clear hkd;obtain ⟨A1,c1,A2,c2,A3,c3,h0,k1,k2,k3,m1,m2,m3⟩:=HN3.out;have H0:=Z h0;have K1:=Z k1;have K2:=Z k2;have K3:=Z k3;have M2:=Z m2;have M3:=Z m3;obtain ⟨n0,n1,n2,n3,n4⟩:=aa h0;obtain ⟨b,off,c',he,hbl,hcells⟩:=k3.sl.zQ (show i<n.kids.length from hi);injection he with he1 he2 he3
    subst he1 he3;have e0:w3.cell? ⟨b,off+(i),none⟩=some (.int .i64 (n.kids[i]'hi)):=by simpa [iC] using hcells 0 _ rfl
    rw [HKD.out] at e0;clear h0 k1 k2 k3 m1 m2 m3 hcells he2;have hi0:(0:Int)<=(i:Int):=by omega
    have hi1:(i:Int)<(n.kids.length:Int):=by omega
    have HSD:=Z (HS3.out.ch (S:=fun _=>False) (Ch.refl _ w3).drew id id);have HRD:=Z ((HNF3.out.ch (S:=fun _=>False) (Ch.refl _ w3).drew (fun _ _=>id)).val);go_wp2_with fail;go_region_law (first
     | (go_simp
        go_at_call 66;refine (bE kd c _ gs gm s w3.drew HSD.out HRD.out (HSC.out.bd (by decide))).mono ?_;rintro e wf ⟨rfl,hs,hc⟩;have HSf:=Z hs;have HHf:=Z ((Ch.refl _ w3).drew.trans hc);clear hs hc))
    all_goals
     have HPf:=Z (HN3.out.ch HHf.out (fun k hk e=>by omega) (by omega));have HCf:=Z (show Ch (eY gs gm gn) w wf from (Ch.zK HBW.out).trans (fR HHf.out));clear n0 n1 n2 n3 n4 e0 a0 a1 a2 a3 a4;have hnz:=Pro.NZ.run (aE kd c) s;obtain ⟨⟨s6,a⟩,hx⟩:∃ x,(aE kd c).run s=x:=⟨_,rfl⟩;rw [hx] at HSf hnz ⊢;rcases a with u | x
     case ok=> have HV:=Z (HRU.out.trans (ah hx));simp only [dW];go_wp2_with fail;go_ret;rw [HV.out];exact ⟨⟨rfl,HPf.out⟩,HSf.out,HCf.out⟩
     case err=> have HV:=Z (HRU.out.trans (aq hx));simp only [dW];go_wp2_with fail;go_ret;rw [HV.out];exact ⟨⟨rfl,n,HPf.out⟩,HSf.out,HCf.out⟩
   ·have hsz1:¬ ((77:Int)<=(bf c:Int)):=by omega
    by_cases hi0:0<i
    ·have hii:(0:Int)<(i:Int):=by omega
     have hw1:IntKind.i64.wrap ((i:Int) - 1)=((i - 1:Nat):Int):=by rw [BA];omega
     have HRU:=Z (show (bg n i c).run s=((bl (n.kids.getD (i - 1) 0)).bind fun l=>if l.leaf=c.leaf then dh n (i - 1) l c else .fail 30).run s by
      rw [HST.out,if_neg hsz,if_pos hi0])
     obtain ⟨j,hj⟩:∃ j,i - 1=j:=⟨_,rfl⟩;rw [hj] at HRU hw1;have hjl:j<n.kids.length:=by omega
     have hjk:j<n.keys.length:=by have:=HKL.out;omega
     have hjl2:j+1<n.kids.length:=by omega
     have hji:(j:Int)<(n.kids.length:Int):=by omega
     have hj0:(0:Int)<=(j:Int):=by omega
     have HJ:=Z hj;clear hj;obtain ⟨kd,hkd⟩:∃ x,n.kids[j]=x:=⟨_,rfl⟩;have HKD:=Z hkd;rw [show n.kids.getD (j) 0=kd by rw [Bt,Bv (by omega),<- HKD.out];rfl] at HRU;clear hkd;obtain ⟨A1,c1,A2,c2,A3,c3,h0,k1,k2,k3,m1,m2,m3⟩:=HN3.out;have H0:=Z h0;have K1:=Z k1;have K2:=Z k2;have K3:=Z k3;have M2:=Z m2;have M3:=Z m3;obtain ⟨n0,n1,n2,n3,n4⟩:=aa h0;obtain ⟨b,off,c',he,hbl,hcells⟩:=k3.sl.zQ (show j<n.kids.length from (by omega));injection he with he1 he2 he3
     subst he1 he3;have e0:w3.cell? ⟨b,off+(j),none⟩=some (.int .i64 (n.kids[j]'(by omega))):=by simpa [iC] using hcells 0 _ rfl
     rw [HKD.out] at e0;clear h0 k1 k2 k3 m1 m2 m3 hcells he2;go_wp2_with fail;refine (dE kd gs gm s w3 HS3.out).mono ?_;rintro e w4 ⟨hp,hs,hc⟩;have hrz:=cu (a:=kd) (s:=s);obtain ⟨⟨s2,a⟩,hx⟩:∃ x,(bl kd).run s=x:=⟨_,rfl⟩;rw [hx] at hp hs hrz;have HS4:=Z hs;have HN4:=Z (HN3.out.ch hc (fun k hk e=>by omega) (by omega));have HNF4:=Z (HNF3.out.ch hc (fun k hk e=>by omega));have HC4:=Z (show Ch (eY gs gm gn) w w4 from (Ch.zK HBW.out).trans (fR hc));have HX4:=Z (hc.keep (af HX1.out HK3.out) (by omega));have hsz4:=hc.size;have HX:=Z hx;clear hs hc hx n0 n1 n2 n3 n4 e0 a0 a1 a2 a3 a4;cases a with
     | err x=>
       obtain rfl:=hp;have hx0:¬ x=0:=hrz x rfl;have hx1:(x == 0)=false:=by simpa using hx0
       have HV:=Z (HRU.out.trans (aq HX.out));have HS5:=Z (HS4.out.ch (S:=fun _=>False) (Ch.alloc (Ch.refl _ w4) (ar Nd.zero (.slice none 0 0) (.slice none 0 0) (.slice none 0 0))) id id);have HC5:=Z (Ch.alloc HC4.out (ar Nd.zero (.slice none 0 0) (.slice none 0 0) (.slice none 0 0)));have HBD:=Z (show gC x=x by unfold gC;rw [if_neg hx0]);simp only [qJ];go_wp2_with fail;refine (eH x _).mono ?_;rw [HBD.out];rintro e w5 ⟨rfl,rfl⟩;have HN5:=Z (HN4.out.keep ((Below.refl _ w4).alloc (Bw _) (ar Nd.zero (.slice none 0 0) (.slice none 0 0) (.slice none 0 0))));go_wp2_with fail;go_ret;rw [HV.out];exact ⟨⟨rfl,n,HN5.out⟩,HS5.out,HC5.out⟩
     | ok m=>
       obtain ⟨v,rfl,vk,vc,vd,rfl,y1,y2,y3,y4⟩:=hp;obtain ⟨hg2,hsm2⟩:=en HX.out;have HGD:=Z hg2;have HSM:=Z (hsm2.mono (show 229<=400 by decide));have HRV:=Z (HRU.out.trans (ah HX.out));obtain ⟨L1,e1,rfl⟩:=y1.form;obtain ⟨L2,e2,rfl⟩:=y2.form;obtain ⟨L3,e3,rfl⟩:=y3.form;have HMF:=Z (show NdF (gn+1) w4 (.agg #[.bool m.leaf,.slice L1 m.keys.length e1,.slice L2 m.cells.length e2,.slice L3 m.kids.length e3]) m from ⟨_,_,_,rfl,(y1.zN aG).mono (by omega),(y2.zN bx).mono (by omega),(y3.zN ax).mono (by omega)⟩);clear y1 y2 y3 y4 hg2 hsm2;have HBA:=Z (show Below w4.heap.size w4 (w4.alloc (ar m (.slice L1 m.keys.length e1) (.slice L2 m.cells.length e2) (.slice L3 m.kids.length e3))) from (Below.refl _ w4).alloc (Bw _) _);have HM5:=Z (ag (w0:=w4) (g:=w4.heap.size) (o:=ar m (.slice L1 m.keys.length e1) (.slice L2 m.cells.length e2) (.slice L3 m.kids.length e3)) rfl);go_upto_region 8 with fail
       generalize hw1:w4.alloc (.cells #[.bool m.leaf,.slice L1 m.keys.length e1,.slice L2 m.cells.length e2,.slice L3 m.kids.length e3] 110)=w5 at *;have hw2:w4.alloc (ar m (.slice L1 m.keys.length e1) (.slice L2 m.cells.length e2) (.slice L3 m.kids.length e3))=w5:=hw1;rw [hw2] at HBA HM5;clear hw1 hw2;have HN5:=Z (HN4.out.keep HBA.out);have HS5:=Z (HS4.out.ch (S:=fun _=>False) (Ch.zK HBA.out) id id);have HNF5:=Z (HNF4.out.keep HBA.out);have HMF5:=Z (HMF.out.keep HBA.out);have HC5:=Z (HC4.out.trans (Ch.zK (S:=eY gs gm gn) HBA.out));have HX5:=Z (af HX4.out HBA.out);obtain ⟨a0,a1,a2,a3,a4⟩:=aa HX5.out;rw [HCL.out] at a0;obtain ⟨p0,p1,p2,p3,p4⟩:=aa HM5.out;by_cases hml:m.leaf=c.leaf
       ·have HML:=Z hml;have HV:=Z (HRV.out.trans (show ((if m.leaf=c.leaf then _ else _:Pro Nd)).run s2=_ by rw [if_pos hml]));rw [HCL.out] at hml;rw [hml] at p0;have HMT:=Z (hE n m c (j) B gs gm gn s2 _ _ w5 HS5.out HN5.out HMF5.out HNF5.out h1 h2 h3 (dw HGD.out) HFC.out (by first | exact HML.out | exact HML.out.symm) HSM.out HSC.out (HSN.out.mono (by decide)) hjk hjl2);rw [hml] at HMT;unfold co at HMT;go_wp2_with fail;refine HMT.out.mono ?_;rintro e w6 ⟨hp,hs,hc⟩;have HS6:=Z hs;have HC6:=Z (HC5.out.trans hc);clear hs hc a0 a1 a2 a3 a4 p0 p1 p2 p3 p4 HMT;obtain ⟨⟨s6,a⟩,hx⟩:∃ x,(dh n (j) m c).run s2=x:=⟨_,rfl⟩;rw [hx] at HS6 hp;have HX6:=Z hx;clear hx;rcases a with q | x
        case ok=> obtain ⟨rfl,hp⟩:=hp;have HP6:=Z hp;clear hp;go_wp2_with fail;go_ret;rw [HV.out,HX6.out];exact ⟨⟨rfl,HP6.out⟩,HS6.out,HC6.out⟩
        case err=> obtain ⟨rfl,q,hp⟩:=hp;have HP6:=Z hp;clear hp;go_wp2_with fail;go_ret;rw [HV.out,HX6.out];exact ⟨⟨rfl,q,HP6.out⟩,HS6.out,HC6.out⟩
       ·have HV:=Z (HRV.out.trans (show ((if m.leaf=c.leaf then _ else Pro.fail 30:Pro Nd)).run s2=(s2,.err 30) by rw [if_neg hml];rfl));have hmb:(m.leaf == false)=false:=by rw [HCL.out] at hml;cases hmx:m.leaf <;> first | rfl | exact absurd hmx hml
        have HBD:=Z (show gC 0=30 from rfl);clear hml;go_wp2_with fail;refine (eH 0 _).mono ?_;rw [HBD.out];rintro e w6 ⟨rfl,rfl⟩;go_wp2_with fail;go_ret;rw [HV.out];exact ⟨⟨rfl,n,HN5.out⟩,HS5.out,HC5.out⟩
    ·obtain rfl:i=0:=by omega
     have HRU:=Z (show (bg n 0 c).run s=((bl (n.kids.getD 1 0)).bind fun r=>if r.leaf=c.leaf then dh n 0 c r else .fail 30).run s by
      rw [HST.out,if_neg hsz,if_neg hi0])
     have hii:¬ ((0:Int)<((0:Nat):Int)):=by omega
     have hjk:0<n.keys.length:=hk0;have hjl2:0+1<n.kids.length:=by have:=HKL.out;omega
     have hji:(1:Int)<(n.kids.length:Int):=by omega
     obtain ⟨kd,hkd⟩:∃ x,n.kids[1]=x:=⟨_,rfl⟩;have HKD:=Z hkd;rw [show n.kids.getD (1) 0=kd by rw [Bt,Bv (by omega),<- HKD.out];rfl] at HRU;clear hkd;obtain ⟨A1,c1,A2,c2,A3,c3,h0,k1,k2,k3,m1,m2,m3⟩:=HN3.out;have H0:=Z h0;have K1:=Z k1;have K2:=Z k2;have K3:=Z k3;have M2:=Z m2;have M3:=Z m3;obtain ⟨n0,n1,n2,n3,n4⟩:=aa h0;obtain ⟨b,off,c',he,hbl,hcells⟩:=k3.sl.zQ (show 1<n.kids.length from (by omega));injection he with he1 he2 he3
     subst he1 he3;have e0:w3.cell? ⟨b,off+(1),none⟩=some (.int .i64 (n.kids[1]'(by omega))):=by simpa [iC] using hcells 0 _ rfl
     rw [HKD.out] at e0;clear h0 k1 k2 k3 m1 m2 m3 hcells he2;go_wp2_with fail;refine (dE kd gs gm s w3 HS3.out).mono ?_;rintro e w4 ⟨hp,hs,hc⟩;have hrz:=cu (a:=kd) (s:=s);obtain ⟨⟨s2,a⟩,hx⟩:∃ x,(bl kd).run s=x:=⟨_,rfl⟩;rw [hx] at hp hs hrz;have HS4:=Z hs;have HN4:=Z (HN3.out.ch hc (fun k hk e=>by omega) (by omega));have HNF4:=Z (HNF3.out.ch hc (fun k hk e=>by omega));have HC4:=Z (show Ch (eY gs gm gn) w w4 from (Ch.zK HBW.out).trans (fR hc));have HX4:=Z (hc.keep (af HX1.out HK3.out) (by omega));have hsz4:=hc.size;have HX:=Z hx;clear hs hc hx n0 n1 n2 n3 n4 e0 a0 a1 a2 a3 a4;cases a with
     | err x=>
       obtain rfl:=hp;have hx0:¬ x=0:=hrz x rfl;have hx1:(x == 0)=false:=by simpa using hx0
       have HV:=Z (HRU.out.trans (aq HX.out));have HS5:=Z (HS4.out.ch (S:=fun _=>False) (Ch.alloc (Ch.refl _ w4) (ar Nd.zero (.slice none 0 0) (.slice none 0 0) (.slice none 0 0))) id id);have HC5:=Z (Ch.alloc HC4.out (ar Nd.zero (.slice none 0 0) (.slice none 0 0) (.slice none 0 0)));have HBD:=Z (show gC x=x by unfold gC;rw [if_neg hx0]);simp only [qJ];go_wp2_with fail;refine (eH x _).mono ?_;rw [HBD.out];rintro e w5 ⟨rfl,rfl⟩;have HN5:=Z (HN4.out.keep ((Below.refl _ w4).alloc (Bw _) (ar Nd.zero (.slice none 0 0) (.slice none 0 0) (.slice none 0 0))));go_wp2_with fail;go_ret;rw [HV.out];exact ⟨⟨rfl,n,HN5.out⟩,HS5.out,HC5.out⟩
     | ok m=>
       obtain ⟨v,rfl,vk,vc,vd,rfl,y1,y2,y3,y4⟩:=hp;obtain ⟨hg2,hsm2⟩:=en HX.out;have HGD:=Z hg2;have HSM:=Z (hsm2.mono (show 229<=400 by decide));have HRV:=Z (HRU.out.trans (ah HX.out));obtain ⟨L1,e1,rfl⟩:=y1.form;obtain ⟨L2,e2,rfl⟩:=y2.form;obtain ⟨L3,e3,rfl⟩:=y3.form;have HMF:=Z (show NdF (gn+1) w4 (.agg #[.bool m.leaf,.slice L1 m.keys.length e1,.slice L2 m.cells.length e2,.slice L3 m.kids.length e3]) m from ⟨_,_,_,rfl,(y1.zN aG).mono (by omega),(y2.zN bx).mono (by omega),(y3.zN ax).mono (by omega)⟩);clear y1 y2 y3 y4 hg2 hsm2;have HBA:=Z (show Below w4.heap.size w4 (w4.alloc (ar m (.slice L1 m.keys.length e1) (.slice L2 m.cells.length e2) (.slice L3 m.kids.length e3))) from (Below.refl _ w4).alloc (Bw _) _);have HM5:=Z (ag (w0:=w4) (g:=w4.heap.size) (o:=ar m (.slice L1 m.keys.length e1) (.slice L2 m.cells.length e2) (.slice L3 m.kids.length e3)) rfl);go_upto_region 12 with fail
       generalize hw1:w4.alloc (.cells #[.bool m.leaf,.slice L1 m.keys.length e1,.slice L2 m.cells.length e2,.slice L3 m.kids.length e3] 110)=w5 at *;have hw2:w4.alloc (ar m (.slice L1 m.keys.length e1) (.slice L2 m.cells.length e2) (.slice L3 m.kids.length e3))=w5:=hw1;rw [hw2] at HBA HM5;clear hw1 hw2;have HN5:=Z (HN4.out.keep HBA.out);have HS5:=Z (HS4.out.ch (S:=fun _=>False) (Ch.zK HBA.out) id id);have HNF5:=Z (HNF4.out.keep HBA.out);have HMF5:=Z (HMF.out.keep HBA.out);have HC5:=Z (HC4.out.trans (Ch.zK (S:=eY gs gm gn) HBA.out));have HX5:=Z (af HX4.out HBA.out);obtain ⟨a0,a1,a2,a3,a4⟩:=aa HX5.out;rw [HCL.out] at a0;obtain ⟨p0,p1,p2,p3,p4⟩:=aa HM5.out;by_cases hml:m.leaf=c.leaf
       ·have HML:=Z hml;have HV:=Z (HRV.out.trans (show ((if m.leaf=c.leaf then _ else _:Pro Nd)).run s2=_ by rw [if_pos hml]));rw [HCL.out] at hml;rw [hml] at p0;have HMT:=Z (hE n c m (0) B gs gm gn s2 _ _ w5 HS5.out HN5.out HNF5.out HMF5.out h1 h2 h3 HFC.out (dw HGD.out) (by first | exact HML.out | exact HML.out.symm) HSC.out HSM.out (HSN.out.mono (by decide)) hjk hjl2);rw [hml] at HMT;unfold co at HMT;go_wp2_with fail;refine HMT.out.mono ?_;rintro e w6 ⟨hp,hs,hc⟩;have HS6:=Z hs;have HC6:=Z (HC5.out.trans hc);clear hs hc a0 a1 a2 a3 a4 p0 p1 p2 p3 p4 HMT;obtain ⟨⟨s6,a⟩,hx⟩:∃ x,(dh n (0) c m).run s2=x:=⟨_,rfl⟩;rw [hx] at HS6 hp;have HX6:=Z hx;clear hx;rcases a with q | x
        case ok=> obtain ⟨rfl,hp⟩:=hp;have HP6:=Z hp;clear hp;go_wp2_with fail;go_ret;rw [HV.out,HX6.out];exact ⟨⟨rfl,HP6.out⟩,HS6.out,HC6.out⟩
        case err=> obtain ⟨rfl,q,hp⟩:=hp;have HP6:=Z hp;clear hp;go_wp2_with fail;go_ret;rw [HV.out,HX6.out];exact ⟨⟨rfl,q,HP6.out⟩,HS6.out,HC6.out⟩
       ·have HV:=Z (HRV.out.trans (show ((if m.leaf=c.leaf then _ else Pro.fail 30:Pro Nd)).run s2=(s2,.err 30) by rw [if_neg hml];rfl));have hmb:(m.leaf == false)=false:=by rw [HCL.out] at hml;cases hmx:m.leaf <;> first | rfl | exact absurd hmx hml
        have HBD:=Z (show gC 0=30 from rfl);clear hml;go_wp2_with fail;refine (eH 0 _).mono ?_;rw [HBD.out];rintro e w6 ⟨rfl,rfl⟩;go_wp2_with fail;go_ret;rw [HV.out];exact ⟨⟨rfl,n,HN5.out⟩,HS5.out,HC5.out⟩
 ·rw [hcl] at a0;have HCL:=Z hcl;rw [hcl] at HFI HTS HNF1;by_cases hk:0<c.keys.length
  ·have HGR2:=Z (show gO c=!bw c by rw [HGR.out,hcl,decide_eq_true hk];simp);have hk1:(0:Int)<(c.keys.length:Int):=by omega
   go_wp2_with fail;refine (HFI.out w1 (Below.refl _ _)).mono ?_;rintro e w2 ⟨rfl,hb⟩;have HK2:=Z hb;clear hb a0 a1 a2 a3 a4;obtain ⟨a0,a1,a2,a3,a4⟩:=aa (af HX1.out HK2.out);rw [hcl] at a0;cases hft:bw c
   ·rw [hft] at HGR2;have HV:=Z (show bg n i c=eh n i c by unfold bg;rw [HGR2.out];rfl);have HN2:=Z (HN1.out.keep HK2.out);have HS2:=Z (HS1.out.ch (S:=fun _=>False) (Ch.zK HK2.out) id id);have HNF2:=Z (HNF1.out.keep HK2.out);have HPX:=Z (HPT.out s w2 HS2.out HN2.out (by rw [HCL.out];exact HNF2.out));rw [HCL.out] at HPX;unfold co at HPX;go_wp2_with fail;refine HPX.out.mono ?_;rintro e w3 ⟨hp,hs,hc⟩;have HS3:=Z hs;have HC3:=Z (((Ch.zK (S:=eY gs gm gn) HBL.out).trans (Ch.zK HK2.out)).trans hc);clear hs hc a0 a1 a2 a3 a4;obtain ⟨⟨s5,a⟩,hx⟩:∃ x,(eh n i c).run s=x:=⟨_,rfl⟩;rw [hx] at HS3 hp;have HX:=Z hx;clear hx;rcases a with m | x
    case ok=> obtain ⟨rfl,hp⟩:=hp;have HP3:=Z hp;clear hp;go_wp2_with fail;go_ret;rw [HV.out,HX.out];exact ⟨⟨rfl,HP3.out⟩,HS3.out,HC3.out⟩
    case err=> obtain ⟨rfl,m,hp⟩:=hp;have HP3:=Z hp;clear hp;go_wp2_with fail;go_ret;rw [HV.out,HX.out];exact ⟨⟨rfl,m,HP3.out⟩,HS3.out,HC3.out⟩
   ·rw [hft] at HGR2;go_wp2_with fail;refine (HTS.out w2 HK2.out).mono ?_;rintro e w3 ⟨rfl,hb⟩;have HK3:=Z (HK2.out.trans (hb.mono HK2.out.size));clear hb a0 a1 a2 a3 a4;obtain ⟨a0,a1,a2,a3,a4⟩:=aa (af HX1.out HK3.out);rw [HCL.out] at a0;have HBW:=Z (HBL.out.trans (HK3.out.mono HBL.out.size));have HN3:=Z (HN1.out.keep HK3.out);have HS3:=Z (HS1.out.ch (S:=fun _=>False) (Ch.zK HK3.out) id id);have HNF3:=Z (HNF1.out.keep HK3.out)
    have HST:=Z (show bg n i c=if 77<=bf c then (aE (n.kids.getD i 0) c).bind fun _=>.pure n
     else if 0<i then (bl (n.kids.getD (i - 1) 0)).bind fun l=>if l.leaf=c.leaf then dh n (i - 1) l c else .fail 30
     else (bl (n.kids.getD 1 0)).bind fun r=>if r.leaf=c.leaf then dh n 0 c r else .fail 30 by
     unfold bg;rw [HGR2.out];rfl)
    have hgb:w.heap.size<w3.heap.size:=aj (af HX1.out HK3.out);by_cases hsz:77<=bf c
    ·have hsz1:(77:Int)<=(bf c:Int):=by omega
     obtain ⟨kd,hkd⟩:∃ x,n.kids[i]=x:=⟨_,rfl⟩;have HKD:=Z hkd
     have HRU:=Z (show (bg n i c).run s=((aE kd c).bind fun _=>.pure n).run s by
      rw [HST.out,if_pos hsz,Bt,Bv hi,<- HKD.out];rfl)
     clear hkd;obtain ⟨A1,c1,A2,c2,A3,c3,h0,k1,k2,k3,m1,m2,m3⟩:=HN3.out;have H0:=Z h0;have K1:=Z k1;have K2:=Z k2;have K3:=Z k3;have M2:=Z m2;have M3:=Z m3;obtain ⟨n0,n1,n2,n3,n4⟩:=aa h0;obtain ⟨b,off,c',he,hbl,hcells⟩:=k3.sl.zQ (show i<n.kids.length from hi);injection he with he1 he2 he3
     subst he1 he3;have e0:w3.cell? ⟨b,off+(i),none⟩=some (.int .i64 (n.kids[i]'hi)):=by simpa [iC] using hcells 0 _ rfl
     rw [HKD.out] at e0;clear h0 k1 k2 k3 m1 m2 m3 hcells he2;have hi0:(0:Int)<=(i:Int):=by omega
     have hi1:(i:Int)<(n.kids.length:Int):=by omega
     have HSD:=Z (HS3.out.ch (S:=fun _=>False) (Ch.refl _ w3).drew id id);have HRD:=Z ((HNF3.out.ch (S:=fun _=>False) (Ch.refl _ w3).drew (fun _ _=>id)).val);go_wp2_with fail;go_region_law (first
      | (go_simp
         go_at_call 66;refine (bE kd c _ gs gm s w3.drew HSD.out HRD.out (HSC.out.bd (by decide))).mono ?_;rintro e wf ⟨rfl,hs,hc⟩;have HSf:=Z hs;have HHf:=Z ((Ch.refl _ w3).drew.trans hc);clear hs hc))
     all_goals
      have HPf:=Z (HN3.out.ch HHf.out (fun k hk e=>by omega) (by omega));have HCf:=Z (show Ch (eY gs gm gn) w wf from (Ch.zK HBW.out).trans (fR HHf.out));clear n0 n1 n2 n3 n4 e0 a0 a1 a2 a3 a4;have hnz:=Pro.NZ.run (aE kd c) s;obtain ⟨⟨s6,a⟩,hx⟩:∃ x,(aE kd c).run s=x:=⟨_,rfl⟩;rw [hx] at HSf hnz ⊢;rcases a with u | x
      case ok=> have HV:=Z (HRU.out.trans (ah hx));simp only [dW];go_wp2_with fail;go_ret;rw [HV.out];exact ⟨⟨rfl,HPf.out⟩,HSf.out,HCf.out⟩
      case err=> have HV:=Z (HRU.out.trans (aq hx));simp only [dW];go_wp2_with fail;go_ret;rw [HV.out];exact ⟨⟨rfl,n,HPf.out⟩,HSf.out,HCf.out⟩
    ·have hsz1:¬ ((77:Int)<=(bf c:Int)):=by omega
     by_cases hi0:0<i
     ·have hii:(0:Int)<(i:Int):=by omega
      have hw1:IntKind.i64.wrap ((i:Int) - 1)=((i - 1:Nat):Int):=by rw [BA];omega
      have HRU:=Z (show (bg n i c).run s=((bl (n.kids.getD (i - 1) 0)).bind fun l=>if l.leaf=c.leaf then dh n (i - 1) l c else .fail 30).run s by
       rw [HST.out,if_neg hsz,if_pos hi0])
      obtain ⟨j,hj⟩:∃ j,i - 1=j:=⟨_,rfl⟩;rw [hj] at HRU hw1;have hjl:j<n.kids.length:=by omega
      have hjk:j<n.keys.length:=by have:=HKL.out;omega
      have hjl2:j+1<n.kids.length:=by omega
      have hji:(j:Int)<(n.kids.length:Int):=by omega
      have hj0:(0:Int)<=(j:Int):=by omega
      have HJ:=Z hj;clear hj;obtain ⟨kd,hkd⟩:∃ x,n.kids[j]=x:=⟨_,rfl⟩;have HKD:=Z hkd;rw [show n.kids.getD (j) 0=kd by rw [Bt,Bv (by omega),<- HKD.out];rfl] at HRU;clear hkd;obtain ⟨A1,c1,A2,c2,A3,c3,h0,k1,k2,k3,m1,m2,m3⟩:=HN3.out;have H0:=Z h0;have K1:=Z k1;have K2:=Z k2;have K3:=Z k3;have M2:=Z m2;have M3:=Z m3;obtain ⟨n0,n1,n2,n3,n4⟩:=aa h0;obtain ⟨b,off,c',he,hbl,hcells⟩:=k3.sl.zQ (show j<n.kids.length from (by omega));injection he with he1 he2 he3
      subst he1 he3;have e0:w3.cell? ⟨b,off+(j),none⟩=some (.int .i64 (n.kids[j]'(by omega))):=by simpa [iC] using hcells 0 _ rfl
      rw [HKD.out] at e0;clear h0 k1 k2 k3 m1 m2 m3 hcells he2;go_wp2_with fail;refine (dE kd gs gm s w3 HS3.out).mono ?_;rintro e w4 ⟨hp,hs,hc⟩;have hrz:=cu (a:=kd) (s:=s);obtain ⟨⟨s2,a⟩,hx⟩:∃ x,(bl kd).run s=x:=⟨_,rfl⟩;rw [hx] at hp hs hrz;have HS4:=Z hs;have HN4:=Z (HN3.out.ch hc (fun k hk e=>by omega) (by omega));have HNF4:=Z (HNF3.out.ch hc (fun k hk e=>by omega));have HC4:=Z (show Ch (eY gs gm gn) w w4 from (Ch.zK HBW.out).trans (fR hc));have HX4:=Z (hc.keep (af HX1.out HK3.out) (by omega));have hsz4:=hc.size;have HX:=Z hx;clear hs hc hx n0 n1 n2 n3 n4 e0 a0 a1 a2 a3 a4;cases a with
      | err x=>
        obtain rfl:=hp;have hx0:¬ x=0:=hrz x rfl;have hx1:(x == 0)=false:=by simpa using hx0
        have HV:=Z (HRU.out.trans (aq HX.out));have HS5:=Z (HS4.out.ch (S:=fun _=>False) (Ch.alloc (Ch.refl _ w4) (ar Nd.zero (.slice none 0 0) (.slice none 0 0) (.slice none 0 0))) id id);have HC5:=Z (Ch.alloc HC4.out (ar Nd.zero (.slice none 0 0) (.slice none 0 0) (.slice none 0 0)));have HBD:=Z (show gC x=x by unfold gC;rw [if_neg hx0]);simp only [qJ];go_wp2_with fail;refine (eH x _).mono ?_;rw [HBD.out];rintro e w5 ⟨rfl,rfl⟩;have HN5:=Z (HN4.out.keep ((Below.refl _ w4).alloc (Bw _) (ar Nd.zero (.slice none 0 0) (.slice none 0 0) (.slice none 0 0))));go_wp2_with fail;go_ret;rw [HV.out];exact ⟨⟨rfl,n,HN5.out⟩,HS5.out,HC5.out⟩
      | ok m=>
        obtain ⟨v,rfl,vk,vc,vd,rfl,y1,y2,y3,y4⟩:=hp;obtain ⟨hg2,hsm2⟩:=en HX.out;have HGD:=Z hg2;have HSM:=Z (hsm2.mono (show 229<=400 by decide));have HRV:=Z (HRU.out.trans (ah HX.out));obtain ⟨L1,e1,rfl⟩:=y1.form;obtain ⟨L2,e2,rfl⟩:=y2.form;obtain ⟨L3,e3,rfl⟩:=y3.form;have HMF:=Z (show NdF (gn+1) w4 (.agg #[.bool m.leaf,.slice L1 m.keys.length e1,.slice L2 m.cells.length e2,.slice L3 m.kids.length e3]) m from ⟨_,_,_,rfl,(y1.zN aG).mono (by omega),(y2.zN bx).mono (by omega),(y3.zN ax).mono (by omega)⟩);clear y1 y2 y3 y4 hg2 hsm2;have HBA:=Z (show Below w4.heap.size w4 (w4.alloc (ar m (.slice L1 m.keys.length e1) (.slice L2 m.cells.length e2) (.slice L3 m.kids.length e3))) from (Below.refl _ w4).alloc (Bw _) _);have HM5:=Z (ag (w0:=w4) (g:=w4.heap.size) (o:=ar m (.slice L1 m.keys.length e1) (.slice L2 m.cells.length e2) (.slice L3 m.kids.length e3)) rfl);go_upto_region 8 with fail
        generalize hw1:w4.alloc (.cells #[.bool m.leaf,.slice L1 m.keys.length e1,.slice L2 m.cells.length e2,.slice L3 m.kids.length e3] 110)=w5 at *;have hw2:w4.alloc (ar m (.slice L1 m.keys.length e1) (.slice L2 m.cells.length e2) (.slice L3 m.kids.length e3))=w5:=hw1;rw [hw2] at HBA HM5;clear hw1 hw2;have HN5:=Z (HN4.out.keep HBA.out);have HS5:=Z (HS4.out.ch (S:=fun _=>False) (Ch.zK HBA.out) id id);have HNF5:=Z (HNF4.out.keep HBA.out);have HMF5:=Z (HMF.out.keep HBA.out);have HC5:=Z (HC4.out.trans (Ch.zK (S:=eY gs gm gn) HBA.out));have HX5:=Z (af HX4.out HBA.out);obtain ⟨a0,a1,a2,a3,a4⟩:=aa HX5.out;rw [HCL.out] at a0;obtain ⟨p0,p1,p2,p3,p4⟩:=aa HM5.out;by_cases hml:m.leaf=c.leaf
        ·have HML:=Z hml;have HV:=Z (HRV.out.trans (show ((if m.leaf=c.leaf then _ else _:Pro Nd)).run s2=_ by rw [if_pos hml]));rw [HCL.out] at hml;rw [hml] at p0;have HMT:=Z (hE n m c (j) B gs gm gn s2 _ _ w5 HS5.out HN5.out HMF5.out HNF5.out h1 h2 h3 (dw HGD.out) HFC.out (by first | exact HML.out | exact HML.out.symm) HSM.out HSC.out (HSN.out.mono (by decide)) hjk hjl2);rw [hml] at HMT;unfold co at HMT;go_wp2_with fail;refine HMT.out.mono ?_;rintro e w6 ⟨hp,hs,hc⟩;have HS6:=Z hs;have HC6:=Z (HC5.out.trans hc);clear hs hc a0 a1 a2 a3 a4 p0 p1 p2 p3 p4 HMT;obtain ⟨⟨s6,a⟩,hx⟩:∃ x,(dh n (j) m c).run s2=x:=⟨_,rfl⟩;rw [hx] at HS6 hp;have HX6:=Z hx;clear hx;rcases a with q | x
         case ok=> obtain ⟨rfl,hp⟩:=hp;have HP6:=Z hp;clear hp;go_wp2_with fail;go_ret;rw [HV.out,HX6.out];exact ⟨⟨rfl,HP6.out⟩,HS6.out,HC6.out⟩
         case err=> obtain ⟨rfl,q,hp⟩:=hp;have HP6:=Z hp;clear hp;go_wp2_with fail;go_ret;rw [HV.out,HX6.out];exact ⟨⟨rfl,q,HP6.out⟩,HS6.out,HC6.out⟩
        ·have HV:=Z (HRV.out.trans (show ((if m.leaf=c.leaf then _ else Pro.fail 30:Pro Nd)).run s2=(s2,.err 30) by rw [if_neg hml];rfl));have hmb:(m.leaf == true)=false:=by rw [HCL.out] at hml;cases hmx:m.leaf <;> first | rfl | exact absurd hmx hml
         have HBD:=Z (show gC 0=30 from rfl);clear hml;go_wp2_with fail;refine (eH 0 _).mono ?_;rw [HBD.out];rintro e w6 ⟨rfl,rfl⟩;go_wp2_with fail;go_ret;rw [HV.out];exact ⟨⟨rfl,n,HN5.out⟩,HS5.out,HC5.out⟩
     ·obtain rfl:i=0:=by omega
      have HRU:=Z (show (bg n 0 c).run s=((bl (n.kids.getD 1 0)).bind fun r=>if r.leaf=c.leaf then dh n 0 c r else .fail 30).run s by
       rw [HST.out,if_neg hsz,if_neg hi0])
      have hii:¬ ((0:Int)<((0:Nat):Int)):=by omega
      have hjk:0<n.keys.length:=hk0;have hjl2:0+1<n.kids.length:=by have:=HKL.out;omega
      have hji:(1:Int)<(n.kids.length:Int):=by omega
      obtain ⟨kd,hkd⟩:∃ x,n.kids[1]=x:=⟨_,rfl⟩;have HKD:=Z hkd;rw [show n.kids.getD (1) 0=kd by rw [Bt,Bv (by omega),<- HKD.out];rfl] at HRU;clear hkd;obtain ⟨A1,c1,A2,c2,A3,c3,h0,k1,k2,k3,m1,m2,m3⟩:=HN3.out;have H0:=Z h0;have K1:=Z k1;have K2:=Z k2;have K3:=Z k3;have M2:=Z m2;have M3:=Z m3;obtain ⟨n0,n1,n2,n3,n4⟩:=aa h0;obtain ⟨b,off,c',he,hbl,hcells⟩:=k3.sl.zQ (show 1<n.kids.length from (by omega));injection he with he1 he2 he3
      subst he1 he3;have e0:w3.cell? ⟨b,off+(1),none⟩=some (.int .i64 (n.kids[1]'(by omega))):=by simpa [iC] using hcells 0 _ rfl
      rw [HKD.out] at e0;clear h0 k1 k2 k3 m1 m2 m3 hcells he2;go_wp2_with fail;refine (dE kd gs gm s w3 HS3.out).mono ?_;rintro e w4 ⟨hp,hs,hc⟩;have hrz:=cu (a:=kd) (s:=s);obtain ⟨⟨s2,a⟩,hx⟩:∃ x,(bl kd).run s=x:=⟨_,rfl⟩;rw [hx] at hp hs hrz;have HS4:=Z hs;have HN4:=Z (HN3.out.ch hc (fun k hk e=>by omega) (by omega));have HNF4:=Z (HNF3.out.ch hc (fun k hk e=>by omega));have HC4:=Z (show Ch (eY gs gm gn) w w4 from (Ch.zK HBW.out).trans (fR hc));have HX4:=Z (hc.keep (af HX1.out HK3.out) (by omega));have hsz4:=hc.size;have HX:=Z hx;clear hs hc hx n0 n1 n2 n3 n4 e0 a0 a1 a2 a3 a4;cases a with
      | err x=>
        obtain rfl:=hp;have hx0:¬ x=0:=hrz x rfl;have hx1:(x == 0)=false:=by simpa using hx0
        have HV:=Z (HRU.out.trans (aq HX.out));have HS5:=Z (HS4.out.ch (S:=fun _=>False) (Ch.alloc (Ch.refl _ w4) (ar Nd.zero (.slice none 0 0) (.slice none 0 0) (.slice none 0 0))) id id);have HC5:=Z (Ch.alloc HC4.out (ar Nd.zero (.slice none 0 0) (.slice none 0 0) (.slice none 0 0)));have HBD:=Z (show gC x=x by unfold gC;rw [if_neg hx0]);simp only [qJ];go_wp2_with fail;refine (eH x _).mono ?_;rw [HBD.out];rintro e w5 ⟨rfl,rfl⟩;have HN5:=Z (HN4.out.keep ((Below.refl _ w4).alloc (Bw _) (ar Nd.zero (.slice none 0 0) (.slice none 0 0) (.slice none 0 0))));go_wp2_with fail;go_ret;rw [HV.out];exact ⟨⟨rfl,n,HN5.out⟩,HS5.out,HC5.out⟩
      | ok m=>
        obtain ⟨v,rfl,vk,vc,vd,rfl,y1,y2,y3,y4⟩:=hp;obtain ⟨hg2,hsm2⟩:=en HX.out;have HGD:=Z hg2;have HSM:=Z (hsm2.mono (show 229<=400 by decide));have HRV:=Z (HRU.out.trans (ah HX.out));obtain ⟨L1,e1,rfl⟩:=y1.form;obtain ⟨L2,e2,rfl⟩:=y2.form;obtain ⟨L3,e3,rfl⟩:=y3.form;have HMF:=Z (show NdF (gn+1) w4 (.agg #[.bool m.leaf,.slice L1 m.keys.length e1,.slice L2 m.cells.length e2,.slice L3 m.kids.length e3]) m from ⟨_,_,_,rfl,(y1.zN aG).mono (by omega),(y2.zN bx).mono (by omega),(y3.zN ax).mono (by omega)⟩);clear y1 y2 y3 y4 hg2 hsm2;have HBA:=Z (show Below w4.heap.size w4 (w4.alloc (ar m (.slice L1 m.keys.length e1) (.slice L2 m.cells.length e2) (.slice L3 m.kids.length e3))) from (Below.refl _ w4).alloc (Bw _) _);have HM5:=Z (ag (w0:=w4) (g:=w4.heap.size) (o:=ar m (.slice L1 m.keys.length e1) (.slice L2 m.cells.length e2) (.slice L3 m.kids.length e3)) rfl);go_upto_region 12 with fail
        generalize hw1:w4.alloc (.cells #[.bool m.leaf,.slice L1 m.keys.length e1,.slice L2 m.cells.length e2,.slice L3 m.kids.length e3] 110)=w5 at *;have hw2:w4.alloc (ar m (.slice L1 m.keys.length e1) (.slice L2 m.cells.length e2) (.slice L3 m.kids.length e3))=w5:=hw1;rw [hw2] at HBA HM5;clear hw1 hw2;have HN5:=Z (HN4.out.keep HBA.out);have HS5:=Z (HS4.out.ch (S:=fun _=>False) (Ch.zK HBA.out) id id);have HNF5:=Z (HNF4.out.keep HBA.out);have HMF5:=Z (HMF.out.keep HBA.out);have HC5:=Z (HC4.out.trans (Ch.zK (S:=eY gs gm gn) HBA.out));have HX5:=Z (af HX4.out HBA.out);obtain ⟨a0,a1,a2,a3,a4⟩:=aa HX5.out;rw [HCL.out] at a0;obtain ⟨p0,p1,p2,p3,p4⟩:=aa HM5.out;by_cases hml:m.leaf=c.leaf
        ·have HML:=Z hml;have HV:=Z (HRV.out.trans (show ((if m.leaf=c.leaf then _ else _:Pro Nd)).run s2=_ by rw [if_pos hml]));rw [HCL.out] at hml;rw [hml] at p0;have HMT:=Z (hE n c m (0) B gs gm gn s2 _ _ w5 HS5.out HN5.out HNF5.out HMF5.out h1 h2 h3 HFC.out (dw HGD.out) (by first | exact HML.out | exact HML.out.symm) HSC.out HSM.out (HSN.out.mono (by decide)) hjk hjl2);rw [hml] at HMT;unfold co at HMT;go_wp2_with fail;refine HMT.out.mono ?_;rintro e w6 ⟨hp,hs,hc⟩;have HS6:=Z hs;have HC6:=Z (HC5.out.trans hc);clear hs hc a0 a1 a2 a3 a4 p0 p1 p2 p3 p4 HMT;obtain ⟨⟨s6,a⟩,hx⟩:∃ x,(dh n (0) c m).run s2=x:=⟨_,rfl⟩;rw [hx] at HS6 hp;have HX6:=Z hx;clear hx;rcases a with q | x
         case ok=> obtain ⟨rfl,hp⟩:=hp;have HP6:=Z hp;clear hp;go_wp2_with fail;go_ret;rw [HV.out,HX6.out];exact ⟨⟨rfl,HP6.out⟩,HS6.out,HC6.out⟩
         case err=> obtain ⟨rfl,q,hp⟩:=hp;have HP6:=Z hp;clear hp;go_wp2_with fail;go_ret;rw [HV.out,HX6.out];exact ⟨⟨rfl,q,HP6.out⟩,HS6.out,HC6.out⟩
        ·have HV:=Z (HRV.out.trans (show ((if m.leaf=c.leaf then _ else Pro.fail 30:Pro Nd)).run s2=(s2,.err 30) by rw [if_neg hml];rfl));have hmb:(m.leaf == true)=false:=by rw [HCL.out] at hml;cases hmx:m.leaf <;> first | rfl | exact absurd hmx hml
         have HBD:=Z (show gC 0=30 from rfl);clear hml;go_wp2_with fail;refine (eH 0 _).mono ?_;rw [HBD.out];rintro e w6 ⟨rfl,rfl⟩;go_wp2_with fail;go_ret;rw [HV.out];exact ⟨⟨rfl,n,HN5.out⟩,HS5.out,HC5.out⟩
  ·have HGR2:=Z (show gO c=!true by rw [HGR.out,hcl,decide_eq_false hk];simp);have hk1:¬ ((0:Int)<(c.keys.length:Int)):=by omega
   have hk2:decide ((0:Int)<(c.keys.length:Int))=false:=decide_eq_false hk1;have HK2:=Z (Below.refl w1.heap.size w1);go_wp2_with fail;refine (HTS.out w1 HK2.out).mono ?_;rintro e w3 ⟨rfl,hb⟩;have HK3:=Z (HK2.out.trans (hb.mono HK2.out.size));clear hb a0 a1 a2 a3 a4;obtain ⟨a0,a1,a2,a3,a4⟩:=aa (af HX1.out HK3.out);rw [HCL.out] at a0;have HBW:=Z (HBL.out.trans (HK3.out.mono HBL.out.size));have HN3:=Z (HN1.out.keep HK3.out);have HS3:=Z (HS1.out.ch (S:=fun _=>False) (Ch.zK HK3.out) id id);have HNF3:=Z (HNF1.out.keep HK3.out)
   have HST:=Z (show bg n i c=if 77<=bf c then (aE (n.kids.getD i 0) c).bind fun _=>.pure n
    else if 0<i then (bl (n.kids.getD (i - 1) 0)).bind fun l=>if l.leaf=c.leaf then dh n (i - 1) l c else .fail 30
    else (bl (n.kids.getD 1 0)).bind fun r=>if r.leaf=c.leaf then dh n 0 c r else .fail 30 by
    unfold bg;rw [HGR2.out];rfl)
   have hgb:w.heap.size<w3.heap.size:=aj (af HX1.out HK3.out);by_cases hsz:77<=bf c
   ·have hsz1:(77:Int)<=(bf c:Int):=by omega
    obtain ⟨kd,hkd⟩:∃ x,n.kids[i]=x:=⟨_,rfl⟩;have HKD:=Z hkd
    have HRU:=Z (show (bg n i c).run s=((aE kd c).bind fun _=>.pure n).run s by
     rw [HST.out,if_pos hsz,Bt,Bv hi,<- HKD.out];rfl)
    clear hkd;obtain ⟨A1,c1,A2,c2,A3,c3,h0,k1,k2,k3,m1,m2,m3⟩:=HN3.out;have H0:=Z h0;have K1:=Z k1;have K2:=Z k2;have K3:=Z k3;have M2:=Z m2;have M3:=Z m3;obtain ⟨n0,n1,n2,n3,n4⟩:=aa h0;obtain ⟨b,off,c',he,hbl,hcells⟩:=k3.sl.zQ (show i<n.kids.length from hi);injection he with he1 he2 he3
    subst he1 he3;have e0:w3.cell? ⟨b,off+(i),none⟩=some (.int .i64 (n.kids[i]'hi)):=by simpa [iC] using hcells 0 _ rfl
    rw [HKD.out] at e0;clear h0 k1 k2 k3 m1 m2 m3 hcells he2;have hi0:(0:Int)<=(i:Int):=by omega
    have hi1:(i:Int)<(n.kids.length:Int):=by omega
    have HSD:=Z (HS3.out.ch (S:=fun _=>False) (Ch.refl _ w3).drew id id);have HRD:=Z ((HNF3.out.ch (S:=fun _=>False) (Ch.refl _ w3).drew (fun _ _=>id)).val);go_wp2_with fail;go_region_law (first
     | (go_simp
        go_at_call 66;refine (bE kd c _ gs gm s w3.drew HSD.out HRD.out (HSC.out.bd (by decide))).mono ?_;rintro e wf ⟨rfl,hs,hc⟩;have HSf:=Z hs;have HHf:=Z ((Ch.refl _ w3).drew.trans hc);clear hs hc))
    all_goals
     have HPf:=Z (HN3.out.ch HHf.out (fun k hk e=>by omega) (by omega));have HCf:=Z (show Ch (eY gs gm gn) w wf from (Ch.zK HBW.out).trans (fR HHf.out));clear n0 n1 n2 n3 n4 e0 a0 a1 a2 a3 a4;have hnz:=Pro.NZ.run (aE kd c) s;obtain ⟨⟨s6,a⟩,hx⟩:∃ x,(aE kd c).run s=x:=⟨_,rfl⟩;rw [hx] at HSf hnz ⊢;rcases a with u | x
     case ok=> have HV:=Z (HRU.out.trans (ah hx));simp only [dW];go_wp2_with fail;go_ret;rw [HV.out];exact ⟨⟨rfl,HPf.out⟩,HSf.out,HCf.out⟩
     case err=> have HV:=Z (HRU.out.trans (aq hx));simp only [dW];go_wp2_with fail;go_ret;rw [HV.out];exact ⟨⟨rfl,n,HPf.out⟩,HSf.out,HCf.out⟩
   ·have hsz1:¬ ((77:Int)<=(bf c:Int)):=by omega
    by_cases hi0:0<i
    ·have hii:(0:Int)<(i:Int):=by omega
     have hw1:IntKind.i64.wrap ((i:Int) - 1)=((i - 1:Nat):Int):=by rw [BA];omega
     have HRU:=Z (show (bg n i c).run s=((bl (n.kids.getD (i - 1) 0)).bind fun l=>if l.leaf=c.leaf then dh n (i - 1) l c else .fail 30).run s by
      rw [HST.out,if_neg hsz,if_pos hi0])
     obtain ⟨j,hj⟩:∃ j,i - 1=j:=⟨_,rfl⟩;rw [hj] at HRU hw1;have hjl:j<n.kids.length:=by omega
     have hjk:j<n.keys.length:=by have:=HKL.out;omega
     have hjl2:j+1<n.kids.length:=by omega
     have hji:(j:Int)<(n.kids.length:Int):=by omega
     have hj0:(0:Int)<=(j:Int):=by omega
     have HJ:=Z hj;clear hj;obtain ⟨kd,hkd⟩:∃ x,n.kids[j]=x:=⟨_,rfl⟩;have HKD:=Z hkd;rw [show n.kids.getD (j) 0=kd by rw [Bt,Bv (by omega),<- HKD.out];rfl] at HRU;clear hkd;obtain ⟨A1,c1,A2,c2,A3,c3,h0,k1,k2,k3,m1,m2,m3⟩:=HN3.out;have H0:=Z h0;have K1:=Z k1;have K2:=Z k2;have K3:=Z k3;have M2:=Z m2;have M3:=Z m3;obtain ⟨n0,n1,n2,n3,n4⟩:=aa h0;obtain ⟨b,off,c',he,hbl,hcells⟩:=k3.sl.zQ (show j<n.kids.length from (by omega));injection he with he1 he2 he3
     subst he1 he3;have e0:w3.cell? ⟨b,off+(j),none⟩=some (.int .i64 (n.kids[j]'(by omega))):=by simpa [iC] using hcells 0 _ rfl
     rw [HKD.out] at e0;clear h0 k1 k2 k3 m1 m2 m3 hcells he2;go_wp2_with fail;refine (dE kd gs gm s w3 HS3.out).mono ?_;rintro e w4 ⟨hp,hs,hc⟩;have hrz:=cu (a:=kd) (s:=s);obtain ⟨⟨s2,a⟩,hx⟩:∃ x,(bl kd).run s=x:=⟨_,rfl⟩;rw [hx] at hp hs hrz;have HS4:=Z hs;have HN4:=Z (HN3.out.ch hc (fun k hk e=>by omega) (by omega));have HNF4:=Z (HNF3.out.ch hc (fun k hk e=>by omega));have HC4:=Z (show Ch (eY gs gm gn) w w4 from (Ch.zK HBW.out).trans (fR hc));have HX4:=Z (hc.keep (af HX1.out HK3.out) (by omega));have hsz4:=hc.size;have HX:=Z hx;clear hs hc hx n0 n1 n2 n3 n4 e0 a0 a1 a2 a3 a4;cases a with
     | err x=>
       obtain rfl:=hp;have hx0:¬ x=0:=hrz x rfl;have hx1:(x == 0)=false:=by simpa using hx0
       have HV:=Z (HRU.out.trans (aq HX.out));have HS5:=Z (HS4.out.ch (S:=fun _=>False) (Ch.alloc (Ch.refl _ w4) (ar Nd.zero (.slice none 0 0) (.slice none 0 0) (.slice none 0 0))) id id);have HC5:=Z (Ch.alloc HC4.out (ar Nd.zero (.slice none 0 0) (.slice none 0 0) (.slice none 0 0)));have HBD:=Z (show gC x=x by unfold gC;rw [if_neg hx0]);simp only [qJ];go_wp2_with fail;refine (eH x _).mono ?_;rw [HBD.out];rintro e w5 ⟨rfl,rfl⟩;have HN5:=Z (HN4.out.keep ((Below.refl _ w4).alloc (Bw _) (ar Nd.zero (.slice none 0 0) (.slice none 0 0) (.slice none 0 0))));go_wp2_with fail;go_ret;rw [HV.out];exact ⟨⟨rfl,n,HN5.out⟩,HS5.out,HC5.out⟩
     | ok m=>
       obtain ⟨v,rfl,vk,vc,vd,rfl,y1,y2,y3,y4⟩:=hp;obtain ⟨hg2,hsm2⟩:=en HX.out;have HGD:=Z hg2;have HSM:=Z (hsm2.mono (show 229<=400 by decide));have HRV:=Z (HRU.out.trans (ah HX.out));obtain ⟨L1,e1,rfl⟩:=y1.form;obtain ⟨L2,e2,rfl⟩:=y2.form;obtain ⟨L3,e3,rfl⟩:=y3.form;have HMF:=Z (show NdF (gn+1) w4 (.agg #[.bool m.leaf,.slice L1 m.keys.length e1,.slice L2 m.cells.length e2,.slice L3 m.kids.length e3]) m from ⟨_,_,_,rfl,(y1.zN aG).mono (by omega),(y2.zN bx).mono (by omega),(y3.zN ax).mono (by omega)⟩);clear y1 y2 y3 y4 hg2 hsm2;have HBA:=Z (show Below w4.heap.size w4 (w4.alloc (ar m (.slice L1 m.keys.length e1) (.slice L2 m.cells.length e2) (.slice L3 m.kids.length e3))) from (Below.refl _ w4).alloc (Bw _) _);have HM5:=Z (ag (w0:=w4) (g:=w4.heap.size) (o:=ar m (.slice L1 m.keys.length e1) (.slice L2 m.cells.length e2) (.slice L3 m.kids.length e3)) rfl);go_upto_region 8 with fail
       generalize hw1:w4.alloc (.cells #[.bool m.leaf,.slice L1 m.keys.length e1,.slice L2 m.cells.length e2,.slice L3 m.kids.length e3] 110)=w5 at *;have hw2:w4.alloc (ar m (.slice L1 m.keys.length e1) (.slice L2 m.cells.length e2) (.slice L3 m.kids.length e3))=w5:=hw1;rw [hw2] at HBA HM5;clear hw1 hw2;have HN5:=Z (HN4.out.keep HBA.out);have HS5:=Z (HS4.out.ch (S:=fun _=>False) (Ch.zK HBA.out) id id);have HNF5:=Z (HNF4.out.keep HBA.out);have HMF5:=Z (HMF.out.keep HBA.out);have HC5:=Z (HC4.out.trans (Ch.zK (S:=eY gs gm gn) HBA.out));have HX5:=Z (af HX4.out HBA.out);obtain ⟨a0,a1,a2,a3,a4⟩:=aa HX5.out;rw [HCL.out] at a0;obtain ⟨p0,p1,p2,p3,p4⟩:=aa HM5.out;by_cases hml:m.leaf=c.leaf
       ·have HML:=Z hml;have HV:=Z (HRV.out.trans (show ((if m.leaf=c.leaf then _ else _:Pro Nd)).run s2=_ by rw [if_pos hml]));rw [HCL.out] at hml;rw [hml] at p0;have HMT:=Z (hE n m c (j) B gs gm gn s2 _ _ w5 HS5.out HN5.out HMF5.out HNF5.out h1 h2 h3 (dw HGD.out) HFC.out (by first | exact HML.out | exact HML.out.symm) HSM.out HSC.out (HSN.out.mono (by decide)) hjk hjl2);rw [hml] at HMT;unfold co at HMT;go_wp2_with fail;refine HMT.out.mono ?_;rintro e w6 ⟨hp,hs,hc⟩;have HS6:=Z hs;have HC6:=Z (HC5.out.trans hc);clear hs hc a0 a1 a2 a3 a4 p0 p1 p2 p3 p4 HMT;obtain ⟨⟨s6,a⟩,hx⟩:∃ x,(dh n (j) m c).run s2=x:=⟨_,rfl⟩;rw [hx] at HS6 hp;have HX6:=Z hx;clear hx;rcases a with q | x
        case ok=> obtain ⟨rfl,hp⟩:=hp;have HP6:=Z hp;clear hp;go_wp2_with fail;go_ret;rw [HV.out,HX6.out];exact ⟨⟨rfl,HP6.out⟩,HS6.out,HC6.out⟩
        case err=> obtain ⟨rfl,q,hp⟩:=hp;have HP6:=Z hp;clear hp;go_wp2_with fail;go_ret;rw [HV.out,HX6.out];exact ⟨⟨rfl,q,HP6.out⟩,HS6.out,HC6.out⟩
       ·have HV:=Z (HRV.out.trans (show ((if m.leaf=c.leaf then _ else Pro.fail 30:Pro Nd)).run s2=(s2,.err 30) by rw [if_neg hml];rfl));have hmb:(m.leaf == true)=false:=by rw [HCL.out] at hml;cases hmx:m.leaf <;> first | rfl | exact absurd hmx hml
        have HBD:=Z (show gC 0=30 from rfl);clear hml;go_wp2_with fail;refine (eH 0 _).mono ?_;rw [HBD.out];rintro e w6 ⟨rfl,rfl⟩;go_wp2_with fail;go_ret;rw [HV.out];exact ⟨⟨rfl,n,HN5.out⟩,HS5.out,HC5.out⟩
    ·obtain rfl:i=0:=by omega
     have HRU:=Z (show (bg n 0 c).run s=((bl (n.kids.getD 1 0)).bind fun r=>if r.leaf=c.leaf then dh n 0 c r else .fail 30).run s by
      rw [HST.out,if_neg hsz,if_neg hi0])
     have hii:¬ ((0:Int)<((0:Nat):Int)):=by omega
     have hjk:0<n.keys.length:=hk0;have hjl2:0+1<n.kids.length:=by have:=HKL.out;omega
     have hji:(1:Int)<(n.kids.length:Int):=by omega
     obtain ⟨kd,hkd⟩:∃ x,n.kids[1]=x:=⟨_,rfl⟩;have HKD:=Z hkd;rw [show n.kids.getD (1) 0=kd by rw [Bt,Bv (by omega),<- HKD.out];rfl] at HRU;clear hkd;obtain ⟨A1,c1,A2,c2,A3,c3,h0,k1,k2,k3,m1,m2,m3⟩:=HN3.out;have H0:=Z h0;have K1:=Z k1;have K2:=Z k2;have K3:=Z k3;have M2:=Z m2;have M3:=Z m3;obtain ⟨n0,n1,n2,n3,n4⟩:=aa h0;obtain ⟨b,off,c',he,hbl,hcells⟩:=k3.sl.zQ (show 1<n.kids.length from (by omega));injection he with he1 he2 he3
     subst he1 he3;have e0:w3.cell? ⟨b,off+(1),none⟩=some (.int .i64 (n.kids[1]'(by omega))):=by simpa [iC] using hcells 0 _ rfl
     rw [HKD.out] at e0;clear h0 k1 k2 k3 m1 m2 m3 hcells he2;go_wp2_with fail;refine (dE kd gs gm s w3 HS3.out).mono ?_;rintro e w4 ⟨hp,hs,hc⟩;have hrz:=cu (a:=kd) (s:=s);obtain ⟨⟨s2,a⟩,hx⟩:∃ x,(bl kd).run s=x:=⟨_,rfl⟩;rw [hx] at hp hs hrz;have HS4:=Z hs;have HN4:=Z (HN3.out.ch hc (fun k hk e=>by omega) (by omega));have HNF4:=Z (HNF3.out.ch hc (fun k hk e=>by omega));have HC4:=Z (show Ch (eY gs gm gn) w w4 from (Ch.zK HBW.out).trans (fR hc));have HX4:=Z (hc.keep (af HX1.out HK3.out) (by omega));have hsz4:=hc.size;have HX:=Z hx;clear hs hc hx n0 n1 n2 n3 n4 e0 a0 a1 a2 a3 a4;cases a with
     | err x=>
       obtain rfl:=hp;have hx0:¬ x=0:=hrz x rfl;have hx1:(x == 0)=false:=by simpa using hx0
       have HV:=Z (HRU.out.trans (aq HX.out));have HS5:=Z (HS4.out.ch (S:=fun _=>False) (Ch.alloc (Ch.refl _ w4) (ar Nd.zero (.slice none 0 0) (.slice none 0 0) (.slice none 0 0))) id id);have HC5:=Z (Ch.alloc HC4.out (ar Nd.zero (.slice none 0 0) (.slice none 0 0) (.slice none 0 0)));have HBD:=Z (show gC x=x by unfold gC;rw [if_neg hx0]);simp only [qJ];go_wp2_with fail;refine (eH x _).mono ?_;rw [HBD.out];rintro e w5 ⟨rfl,rfl⟩;have HN5:=Z (HN4.out.keep ((Below.refl _ w4).alloc (Bw _) (ar Nd.zero (.slice none 0 0) (.slice none 0 0) (.slice none 0 0))));go_wp2_with fail;go_ret;rw [HV.out];exact ⟨⟨rfl,n,HN5.out⟩,HS5.out,HC5.out⟩
     | ok m=>
       obtain ⟨v,rfl,vk,vc,vd,rfl,y1,y2,y3,y4⟩:=hp;obtain ⟨hg2,hsm2⟩:=en HX.out;have HGD:=Z hg2;have HSM:=Z (hsm2.mono (show 229<=400 by decide));have HRV:=Z (HRU.out.trans (ah HX.out));obtain ⟨L1,e1,rfl⟩:=y1.form;obtain ⟨L2,e2,rfl⟩:=y2.form;obtain ⟨L3,e3,rfl⟩:=y3.form;have HMF:=Z (show NdF (gn+1) w4 (.agg #[.bool m.leaf,.slice L1 m.keys.length e1,.slice L2 m.cells.length e2,.slice L3 m.kids.length e3]) m from ⟨_,_,_,rfl,(y1.zN aG).mono (by omega),(y2.zN bx).mono (by omega),(y3.zN ax).mono (by omega)⟩);clear y1 y2 y3 y4 hg2 hsm2;have HBA:=Z (show Below w4.heap.size w4 (w4.alloc (ar m (.slice L1 m.keys.length e1) (.slice L2 m.cells.length e2) (.slice L3 m.kids.length e3))) from (Below.refl _ w4).alloc (Bw _) _);have HM5:=Z (ag (w0:=w4) (g:=w4.heap.size) (o:=ar m (.slice L1 m.keys.length e1) (.slice L2 m.cells.length e2) (.slice L3 m.kids.length e3)) rfl);go_upto_region 12 with fail
       generalize hw1:w4.alloc (.cells #[.bool m.leaf,.slice L1 m.keys.length e1,.slice L2 m.cells.length e2,.slice L3 m.kids.length e3] 110)=w5 at *;have hw2:w4.alloc (ar m (.slice L1 m.keys.length e1) (.slice L2 m.cells.length e2) (.slice L3 m.kids.length e3))=w5:=hw1;rw [hw2] at HBA HM5;clear hw1 hw2;have HN5:=Z (HN4.out.keep HBA.out);have HS5:=Z (HS4.out.ch (S:=fun _=>False) (Ch.zK HBA.out) id id);have HNF5:=Z (HNF4.out.keep HBA.out);have HMF5:=Z (HMF.out.keep HBA.out);have HC5:=Z (HC4.out.trans (Ch.zK (S:=eY gs gm gn) HBA.out));have HX5:=Z (af HX4.out HBA.out);obtain ⟨a0,a1,a2,a3,a4⟩:=aa HX5.out;rw [HCL.out] at a0;obtain ⟨p0,p1,p2,p3,p4⟩:=aa HM5.out;by_cases hml:m.leaf=c.leaf
       ·have HML:=Z hml;have HV:=Z (HRV.out.trans (show ((if m.leaf=c.leaf then _ else _:Pro Nd)).run s2=_ by rw [if_pos hml]));rw [HCL.out] at hml;rw [hml] at p0;have HMT:=Z (hE n c m (0) B gs gm gn s2 _ _ w5 HS5.out HN5.out HNF5.out HMF5.out h1 h2 h3 HFC.out (dw HGD.out) (by first | exact HML.out | exact HML.out.symm) HSC.out HSM.out (HSN.out.mono (by decide)) hjk hjl2);rw [hml] at HMT;unfold co at HMT;go_wp2_with fail;refine HMT.out.mono ?_;rintro e w6 ⟨hp,hs,hc⟩;have HS6:=Z hs;have HC6:=Z (HC5.out.trans hc);clear hs hc a0 a1 a2 a3 a4 p0 p1 p2 p3 p4 HMT;obtain ⟨⟨s6,a⟩,hx⟩:∃ x,(dh n (0) c m).run s2=x:=⟨_,rfl⟩;rw [hx] at HS6 hp;have HX6:=Z hx;clear hx;rcases a with q | x
        case ok=> obtain ⟨rfl,hp⟩:=hp;have HP6:=Z hp;clear hp;go_wp2_with fail;go_ret;rw [HV.out,HX6.out];exact ⟨⟨rfl,HP6.out⟩,HS6.out,HC6.out⟩
        case err=> obtain ⟨rfl,q,hp⟩:=hp;have HP6:=Z hp;clear hp;go_wp2_with fail;go_ret;rw [HV.out,HX6.out];exact ⟨⟨rfl,q,HP6.out⟩,HS6.out,HC6.out⟩
       ·have HV:=Z (HRV.out.trans (show ((if m.leaf=c.leaf then _ else Pro.fail 30:Pro Nd)).run s2=(s2,.err 30) by rw [if_neg hml];rfl));have hmb:(m.leaf == true)=false:=by rw [HCL.out] at hml;cases hmx:m.leaf <;> first | rfl | exact absurd hmx hml
        have HBD:=Z (show gC 0=30 from rfl);clear hml;go_wp2_with fail;refine (eH 0 _).mono ?_;rw [HBD.out];rintro e w6 ⟨rfl,rfl⟩;go_wp2_with fail;go_ret;rw [HV.out];exact ⟨⟨rfl,n,HN5.out⟩,HS5.out,HC5.out⟩
structure Lf (base gn:Nat) (n:Nd) (w:Bz):Prop where
 is:∃ vk vc vd,w.heap[gn]?=some (ar n vk vc vd)/\Own sC 1 9 base w vk n.keys/\Own cC 3 119 base w vc n.cells/\Own iC 1 3 base w vd n.kids/\Dis vk vc/\Dis vk vd/\Dis vc vd/\Ne vk gn/\Ne vc gn/\Ne vd gn
def zF (gn:Nat) (w:Bz):Prop:=∃ (m:Nd) (A1:Option Addr) (n1 c1:Nat) (A2:Option Addr) (n2 c2:Nat) (A3:Option Addr) (n3 c3:Nat),w.heap[gn]?=some (ar m (.slice A1 n1 c1) (.slice A2 n2 c2) (.slice A3 n3 c3))
def jm (base gs gm:Nat):Nat->Prop:=fun k=>k=gs\/k=gm\/base<=k
def DoP (base gn:Nat) (w:Bz) (e:Ending):Ans (Option Nd)->Prop
 | .ok (some n)=>e=.returned (.tuple #[.bool true,.int .i64 0])/\Lf base gn n w/\n.Sm 231/\n.Fit
 | .ok none=>e=.returned (.tuple #[.bool false,.int .i64 0])/\zF gn w
 | .err x=>e=.returned (.tuple #[.bool false,.int .i64 x])/\zF gn w
theorem Lf.any {base gn:Nat} {n:Nd} {w:Bz} (h:Lf base gn n w):zF gn w:=by obtain ⟨vk,vc,vd,h0,h1,h2,h3,_⟩:=h.is;obtain ⟨A1,c1,rfl⟩:=h1.form;obtain ⟨A2,c2,rfl⟩:=h2.form;obtain ⟨A3,c3,rfl⟩:=h3.form;exact ⟨n,A1,_,c1,A2,_,c2,A3,_,c3,h0⟩
theorem Lf.ch {base gn:Nat} {n:Nd} {w w':Bz} {S:Nat->Prop} (h:Lf base gn n w) (hc:Ch S w w') (hs:∀ k,base<=k->¬ S k) (hg:¬ S gn):Lf base gn n w':=by obtain ⟨vk,vc,vd,h0,h1,h2,h3,h4⟩:=h.is;exact ⟨vk,vc,vd,hc.keep h0 hg,h1.ch hc (fun k hk=>hs k (h1.lt k hk).1),h2.ch hc (fun k hk=>hs k (h2.lt k hk).1),h3.ch hc (fun k hk=>hs k (h3.lt k hk).1),h4⟩
theorem Lf.keep {base gn:Nat} {n:Nd} {w w':Bz} (h:Lf base gn n w) (hb:Below w.heap.size w w'):Lf base gn n w':=h.ch (S:=fun _=>False) (Ch.zK hb) (fun _ _=>id) id
theorem Lf.lt {base gn:Nat} {n:Nd} {w:Bz} (h:Lf base gn n w):gn<w.heap.size:=by obtain ⟨_,_,_,h0,_⟩:=h.is;exact aj h0
theorem Lf.zZ {base gn:Nat} {n:Nd} {w:Bz} (h:Lf base gn n w):∃ A1 c1 A2 c2 A3 c3,w.heap[gn]?=some (ar n (.slice A1 n.keys.length c1) (.slice A2 n.cells.length c2) (.slice A3 n.kids.length c3))/\Own sC 1 9 base w (.slice A1 n.keys.length c1) n.keys/\Own cC 3 119 base w (.slice A2 n.cells.length c2) n.cells/\Own iC 1 3 base w (.slice A3 n.kids.length c3) n.kids/\
  Dis (.slice A1 n.keys.length c1) (.slice A2 n.cells.length c2)/\Dis (.slice A1 n.keys.length c1) (.slice A3 n.kids.length c3)/\Dis (.slice A2 n.cells.length c2) (.slice A3 n.kids.length c3)/\Ne (.slice A1 n.keys.length c1) gn/\Ne (.slice A2 n.cells.length c2) gn/\Ne (.slice A3 n.kids.length c3) gn:=by
 obtain ⟨vk,vc,vd,h0,h1,h2,h3,h4⟩:=h.is;obtain ⟨A1,c1,rfl⟩:=h1.form;obtain ⟨A2,c2,rfl⟩:=h2.form;obtain ⟨A3,c3,rfl⟩:=h3.form;exact ⟨A1,c1,A2,c2,A3,c3,h0,h1,h2,h3,h4⟩
theorem NdV.AB {w:Bz} {n:Nd} {base:Nat} {vk vc vd:BG} (h1:Own sC 1 9 base w vk n.keys) (h2:Own cC 3 119 base w vc n.cells) (h3:Own iC 1 3 base w vd n.kids):NdV w (.agg #[.bool n.leaf,vk,vc,vd]) n:=⟨vk,vc,vd,rfl,h1.sl aG,h2.sl bx,h3.sl ax⟩
structure Cap (base g1 g2 gs gm:Nat) (k:By) (w:Bz):Prop where
 k:w.heap[g1]?=some (.cells #[.string (ap k)] 9 (0,0))
 p:w.heap[g2]?=some (.cells #[co gs] 107 (0,0))
 l1:g1<base
 l2:g2<base
 n1:g1≠gs
 n2:g1≠gm
 n3:g2≠gs
 n4:g2≠gm
theorem Cap.ch {base g1 g2 gs gm:Nat} {k:By} {w w':Bz} {S:Nat->Prop} (h:Cap base g1 g2 gs gm k w) (hc:Ch S w w') (h1:¬ S g1) (h2:¬ S g2):Cap base g1 g2 gs gm k w':=⟨hc.keep h.k h1,hc.keep h.p h2,h.l1,h.l2,h.n1,h.n2,h.n3,h.n4⟩
theorem Cap.mono {base base' g1 g2 gs gm:Nat} {k:By} {w:Bz} (h:Cap base g1 g2 gs gm k w) (hb:base<=base'):Cap base' g1 g2 gs gm k w:=⟨h.k,h.p,BJ h.l1 hb,BJ h.l2 hb,h.n1,h.n2,h.n3,h.n4⟩
theorem yp {n:Nd} {k:By} (h:jT n.keys k=true) (hf:n.Fit) (hl:n.leaf=true):cj n.keys k<n.keys.length/\cj n.keys k<n.cells.length:=by have:=(fU h).1;have:=(hf.c hl).1;exact ⟨by omega,by omega⟩
theorem tw (n:Nd) (k:By):cj n.keys k<=n.keys.length:=(List.takeWhile_sublist _).length_le
theorem kZ {α:Type} {l:List α} {i:Nat} {x:α} (h:x ∈ l.eraseIdx i):x ∈ l:=(BC l i).mem h
theorem yI {n:Nd} {i:Nat} (h:n.Sm 230):Nd.Sm 231 { n with keys:=n.keys.eraseIdx i,cells:=n.cells.eraseIdx i }:=by have h1:=h.k;have h2:=h.c;have h3:=h.d;have e1:=(BC n.keys i).length_le;have e2:=(BC n.cells i).length_le;exact ⟨by simp only;omega,by simp only;omega,by simp only;omega,fun k hk=>h.kl k (kZ hk),fun c hc=>h.cl c (kZ hc)⟩
theorem yc {n:Nd} {i:Nat} (h:n.Fit) (hl:n.leaf=true) (hi:i<n.keys.length):Nd.Fit { n with keys:=n.keys.eraseIdx i,cells:=n.cells.eraseIdx i }:=by
 have h1:=h.c hl;refine ⟨fun _=>⟨?_,h1.2⟩,fun hh=>?_⟩
 ·simp only;rw [BB (by omega),BB hi];omega
 ·simp only at hh;rw [hl] at hh;cases hh
theorem wT (n:Nd) (k:By) (base g1 g2 gs gm gn:Nat) (s:Sf) (w:Bz) (hS:ShIs w gs gm s) (hC:Cap base g1 g2 gs gm k w) (hL:Lf base gn n w) (hg:aD n=true) (hl:n.leaf=true) (hn:n.Sm 230)
  (h1:gs<base) (h2:gm<base) (h3:base<=gn):
  Calls Tryz.prog 73 #[.pointer (some ⟨gn,0,none⟩),.pointer (some ⟨g1,0,none⟩),.pointer (some ⟨g2,0,none⟩)] w fun e w'=>DoP base gn w' e ((aT k n).run s).2/\ShIs w' gs gm ((aT k n).run s).1/\Ch (jm base gs gm) w w':=by
 have HS:=Z hS;have HC:=Z hC;have HL:=Z hL;have HSN:=Z hn;have HFT:=Z (dw hg);have hkk:=hn.k;have hkc:=hn.c;have hgn:=hL.lt;have HLE:=Z (tw n k);have HIL:=Z (fun (h:jT n.keys k=true)=>yp h (dw hg) hl);obtain ⟨A1,c1,A2,c2,A3,c3,e0,e1,e2,e3,d1,d2,d3,x1,x2,x3⟩:=hL.zZ;have HB:=Z e0;have HO1:=Z e1;have HO2:=Z e2;have HO3:=Z e3;have HD1:=Z d1;have HD2:=Z d2;have HD3:=Z d3;have HX1:=Z x1;have HX2:=Z x2;have HX3:=Z x3;have HFI:=Z (fun (y:Up w)=>kw n k _ y.w ((NdV.AB e1 e2 e3).keep y.h) (hn.bd (by decide)) hg);have HLF:=Z hl;have a0:=bj (ae e0 0) hgn;have a1:=bj (ae e0 1) hgn;have a2:=bj (ae e0 2) hgn;have a3:=bj (ae e0 3) hgn;have hl1:=aj hC.k;have hl2:=aj hC.p;have b1:=bj (ae hC.k 0) hl1;have b2:=bj (ae hC.p 0) hl2;clear e0 e1 e2 e3 d1 d2 d3 x1 x2 x3 hS hC hL hn hl hg;go_enter Tryz.func73,Tryz.ntmps73;go_wp2_with fail;refine aM (by kernel_rfl) (by kernel_rfl) ?_
 repeat (go_big_quiet_step (first | (go_at_call 60;exact eF (HFI.out _))))
 refine wpQuiet_nil ?_;rintro w2 ⟨⟨_,hb⟩,rfl⟩;have HS2:=Z (HS.out.ch (S:=fun _=>False) (Ch.zK hb) id id);have HL2:=Z (HL.out.keep hb);have HC2:=Z (HC.out.ch (S:=fun _=>False) (Ch.zK hb) id id);have HH2:=Z (show Ch (jm base gs gm) w w2 from Ch.zK hb);clear hb a0 a1 a2 a3 b1 b2 hl1 hl2 HFI HB HO1 HO2 HO3 HD1 HD2 HD3 HX1 HX2 HX3;have hle:=HLE.out;cases his:jT n.keys k
 ·have HV:=Z (show aT k n=.pure none by unfold aT;rw [his];rfl);go_wp2_with fail;go_ret2;rw [HV.out];exact ⟨⟨rfl,HL2.out.any⟩,HS2.out,HH2.out⟩
 ·obtain ⟨hlk,hlc⟩:=HIL.out his;have HV:=Z (show aT k n=(cM (n.cells.getD (cj n.keys k) ⟨0,[],0⟩)).bind fun _=>.pure (some { n with keys:=n.keys.eraseIdx (cj n.keys k),cells:=n.cells.eraseIdx (cj n.keys k) }) by unfold aT;rw [his];rfl);clear HIL HLE his;generalize cj n.keys k=i at *;obtain ⟨c,hcc⟩:∃ c,n.cells[i]=c:=⟨_,rfl⟩;have hcl:c.data.length<=40:=by rw [<- hcc];exact HSN.out.cl _ (BE hlc)
  rw [Bt,Bv hlc,hcc,Option.getD_some] at HV;obtain ⟨A1,c1,A2,c2,A3,c3,e0,e1,e2,e3,d1,d2,d3,x1,x2,x3⟩:=HL2.out.zZ;obtain ⟨gk,c1',ee,hgk,hgk'⟩:=e1.zS (by intro e;rw [e] at hlk;simp at hlk);injection ee with y1 y2 y3
  subst y1 y3;obtain ⟨gc,c2',ee,hgc,hgc'⟩:=e2.zS (by intro e;rw [e] at hlc;simp at hlc);injection ee with y1 y2 y3
  subst y1 y3;clear y2;obtain ⟨b,off,he,hbl,hn',f0,f1,f2⟩:=(e2.sl bx).zT hlc;injection he with he
  injection he with he he2
  subst he he2;rw [hcc,Nat.zero_add] at f0 f1 f2;obtain ⟨n0,n1,n2,n3,n4⟩:=aa e0;have b2:=ae HC2.out.p 0;have hl2:=aj HC2.out.p;have hi0:(0:Int)<=(i:Int):=by omega
  have hi1:(i:Int)<(n.cells.length:Int):=by omega
  clear e0 e1 e2 e3 d1 d2 d3 x1 x2 x3 hcc hn';have HCF:=Z (oU c gs gm s w2.drew (HS2.out.ch (S:=fun _=>False) (Ch.refl _ w2).drew id id) (by omega));unfold kF co at HCF;unfold co at b2;go_upto_if 18 with fail
  go_wp2_with fail;go_cut [8] from 19 to 29 (fun ev wc=>ev=dW ((cM c).run s).2/\ShIs wc gs gm ((cM c).run s).1/\Ch (fun k=>k=gs\/k=gm) w2 wc)
  case first=>
   go_region_law (first
    | (go_simp
       go_at_call 69;refine HCF.out.mono ?_;rintro e w5 ⟨rfl,hs,hc⟩;have HS5:=Z hs;have HH5:=Z ((Ch.refl _ w2).drew.trans hc);clear hs hc))
   all_goals
    go_wp2_with fail;go_meet
    case rel=>exact ⟨rfl,HS5.out,HH5.out⟩
  case rest=>
  obtain ⟨rfl,hs5,hh5⟩:=hcut;have HS5:=Z hs5;have HL5:=Z (HL2.out.ch hh5 (fun k hk e=>by omega) (by omega));have HH5:=Z (HH2.out.trans (hh5.mono (S':=jm base gs gm) (fun _ _ e=>e.elim .inl (fun e=>.inr (.inl e)))));clear hs5 hh5 n0 n1 n2 n3 n4 f0 f1 f2 b2 hl2 HCF;have hnz:=Pro.NZ.run (cM c) s;obtain ⟨⟨s5,a⟩,hx⟩:∃ x,(cM c).run s=x:=⟨_,rfl⟩;rw [hx] at HS5 hnz ⊢;rcases a with u | x
  case err=>
   have hx0:¬ x=0:=hnz x (jy _) rfl;have hx1:(x == 0)=false:=by simpa using hx0
   have HW:=Z (show (aT k n).run s=(s5,.err x) by rw [HV.out];exact aq hx);simp only [dW];go_wp2_with fail;go_ret2;rw [HW.out];exact ⟨⟨rfl,HL5.out.any⟩,HS5.out,HH5.out⟩
  have HW:=Z (show (aT k n).run s=(s5,.ok (some { n with keys:=n.keys.eraseIdx i,cells:=n.cells.eraseIdx i })) by rw [HV.out];exact ah hx);simp only [dW];clear hnz hx;obtain ⟨A1,c1,A2,c2,A3,c3,e0,e1,e2,e3,d1,d2,d3,x1,x2,x3⟩:=HL5.out.zZ;obtain ⟨gk,c1',ee,hgk,hgk'⟩:=e1.zS (by intro e;rw [e] at hlk;simp at hlk);injection ee with y1 y2 y3
  subst y1 y3;obtain ⟨gc,c2',ee,hgc,hgc'⟩:=e2.zS (by intro e;rw [e] at hlc;simp at hlc);injection ee with y1 y2 y3
  subst y1 y3;clear y2;have H0:=Z e0;have HO2:=Z e2;have HO3:=Z e3;have HD1:=Z d1;have HD2:=Z d2;have HD3:=Z d3;have hnk:gk≠gn:=x1 gk rfl;have hnc:gc≠gn:=x2 gc rfl;have HX3:=Z x3;have hkc:gk≠gc:=fun e=>d1 gk rfl (by rw [e];rfl)
  obtain ⟨n0,n1,n2,n3,n4⟩:=aa e0;have HDE:=Z (rj n.keys i base gk c1 wc e1 hlk (by omega));have hw1:IntKind.i64.wrap ((i:Int)+1)=(i:Int)+1:=by rw [BA];omega
  clear e0 e1 e2 e3 d1 d2 d3 x1 x2 x3;go_wp2_with fail;refine HDE.out.mono ?_;rintro e w6 ⟨rfl,ho,hg⟩;have HO61:=Z ho;have H6:=Z (show w6.heap[gn]?=_ from (hg.block gn n4 (fun e=>hnk (by injection e with e;exact e.symm))).trans H0.out);have HO62:=Z (HO2.out.dis (v2:=.slice (some ⟨gk,0,none⟩) n.keys.length c1) hg HD1.out.symm);have HO63:=Z (HO3.out.dis (v2:=.slice (some ⟨gk,0,none⟩) n.keys.length c1) hg HD2.out.symm);have HG6:=Z (Ch.zL (S:=jm base gs gm) hg (fun k e=>by injection e with e;exact .inr (.inr (by omega))));have HS6:=Z (HS5.out.ch (S:=fun k=>base<=k) (Ch.zL hg (fun k e=>by injection e with e;omega)) (by omega) (by omega));have hsz6:=hg.size;clear ho hg HDE HO2 HO3 n0 n1 n2 n3 n4;obtain ⟨n0,n1,n2,n3,n4⟩:=aa H6.out;have fn:=ab H6.out;generalize hL1:n.keys.length - 1=L1 at *;have HC7:=Z ((Ch.refl (fun k=>k=gn) w6).setCell (p:=⟨gn,1,none⟩) rfl (.slice (some ⟨gk,0,none⟩) L1 c1));have H7:=Z (show (w6.setCell ⟨gn,1,none⟩ (.slice (some ⟨gk,0,none⟩) L1 c1)).heap[gn]?=some (ar n (.slice (some ⟨gk,0,none⟩) L1 c1) (.slice (some ⟨gc,0,none⟩) n.cells.length c2) (.slice A3 n.kids.length c3)) from ai H6.out 1 _);clear hL1;go_upto_region 8 with fail
  generalize w6.setCell ⟨gn,1,none⟩ (.slice (some ⟨gk,0,none⟩) L1 c1)=w7 at *;have HO71:=Z (HO61.out.ch HC7.out (fun k hk e=>by have hk:some gk=some k:=hk;injection hk with hk;omega));have HO72:=Z (HO62.out.ch HC7.out (fun k hk e=>by have hk:some gc=some k:=hk;injection hk with hk;omega));have HO73:=Z (HO63.out.ch HC7.out (fun k hk e=>HX3.out k hk e));have HS7:=Z (HS6.out.ch HC7.out (by omega) (by omega));have HH7:=Z ((HH5.out.trans HG6.out).trans (HC7.out.mono (S':=jm base gs gm) (fun k _ e=>.inr (.inr (by omega)))));clear n0 n1 n2 n3 n4 fn HO61 HO62 HO63 HS6 HG6 HC7 H6;obtain ⟨n0,n1,n2,n3,n4⟩:=aa H7.out;have HDE:=Z (wS n.cells i base gc c2 w7 HO72.out hlc (by omega));go_wp2_with fail;refine HDE.out.mono ?_;rintro e w8 ⟨rfl,ho,hg⟩;have HO82:=Z ho;have H8:=Z (show w8.heap[gn]?=_ from (hg.block gn n4 (fun e=>hnc (by injection e with e;exact e.symm))).trans H7.out);have HO81:=Z (HO71.out.dis (v2:=.slice (some ⟨gc,0,none⟩) n.cells.length c2) hg HD1.out);have HO83:=Z (HO73.out.dis (v2:=.slice (some ⟨gc,0,none⟩) n.cells.length c2) hg HD3.out.symm);have HG8:=Z (Ch.zL (S:=jm base gs gm) hg (fun k e=>by injection e with e;exact .inr (.inr (by omega))));have HS8:=Z (HS7.out.ch (S:=fun k=>base<=k) (Ch.zL hg (fun k e=>by injection e with e;omega)) (by omega) (by omega));clear ho hg HDE n0 n1 n2 n3 n4;obtain ⟨n0,n1,n2,n3,n4⟩:=aa H8.out;have fn:=ab H8.out;generalize hL2:n.cells.length - 1=L2 at *;have HC9:=Z ((Ch.refl (fun k=>k=gn) w8).setCell (p:=⟨gn,2,none⟩) rfl (.slice (some ⟨gc,0,none⟩) L2 c2));have H9:=Z (show (w8.setCell ⟨gn,2,none⟩ (.slice (some ⟨gc,0,none⟩) L2 c2)).heap[gn]?=some (ar n (.slice (some ⟨gk,0,none⟩) L1 c1) (.slice (some ⟨gc,0,none⟩) L2 c2) (.slice A3 n.kids.length c3)) from ai H8.out 2 _);clear hL2;go_wp2_with fail;go_ret2;generalize w8.setCell ⟨gn,2,none⟩ (.slice (some ⟨gc,0,none⟩) L2 c2)=w9 at *;rw [HW.out];have hc9:=HC9.out
  refine ⟨⟨rfl,⟨⟨_,_,_,H9.out,HO81.out.ch hc9 (fun k hk e=>by have hk:some gk=some k:=hk;injection hk with hk;omega),HO82.out.ch hc9 (fun k hk e=>by have hk:some gc=some k:=hk;injection hk with hk;omega),HO83.out.ch hc9 (fun k hk e=>HX3.out k hk e),HD1.out,HD2.out,HD3.out,
   fun k hk e=>by have hk:some gk=some k:=hk;injection hk with hk;omega,fun k hk e=>by have hk:some gc=some k:=hk;injection hk with hk;omega,HX3.out⟩⟩,yI HSN.out,yc HFT.out HLF.out hlk⟩,HS8.out.ch hc9 (by omega) (by omega),(HH7.out.trans HG8.out).trans (hc9.mono (S':=jm base gs gm) (fun k _ e=>.inr (.inr (by omega))))⟩
theorem yC {n:Nd} {i:Nat} {k:By} {c:Ce} (h:n.Sm 230) (hk:k.length<=64) (hc:c.data.length<=40) (hi:i<=n.keys.length) (hi2:i<=n.cells.length):Nd.Sm 231 { n with keys:=n.keys.insertIdx i k,cells:=n.cells.insertIdx i c }:=by
 have h1:=h.k;have h2:=h.c;have h3:=h.d;refine ⟨by simp only;rw [Bx hi];omega,by simp only;rw [Bx hi2];omega,by simp only;omega,fun x hx=>?_,fun x hx=>?_⟩
 ·simp only at hx;rw [iu _ _ _ hi] at hx;rcases List.mem_append.1 hx with hx | hx
  ·exact h.kl x (BH hx)
  ·rcases List.mem_cons.1 hx with rfl | hx
   ·exact hk
   ·exact h.kl x (BI hx)
 ·simp only at hx;rw [iu _ _ _ hi2] at hx;rcases List.mem_append.1 hx with hx | hx
  ·exact h.cl x (BH hx)
  ·rcases List.mem_cons.1 hx with rfl | hx
   ·exact hc
   ·exact h.cl x (BI hx)
theorem xG {n:Nd} {i:Nat} {k:By} {c:Ce} (h:n.Fit) (hl:n.leaf=true) (hi:i<=n.keys.length):Nd.Fit { n with keys:=n.keys.insertIdx i k,cells:=n.cells.insertIdx i c }:=by
 have h1:=h.c hl;refine ⟨fun _=>⟨?_,h1.2⟩,fun hh=>?_⟩
 ·simp only;rw [Bx hi,Bx (by omega)];omega
 ·simp only at hh;rw [hl] at hh;cases hh
theorem yz {n:Nd} {i:Nat} {c:Ce} (h:n.Sm 230) (hc:c.data.length<=40):Nd.Sm 231 { n with cells:=n.cells.set i c }:=by
 have h1:=h.k;have h2:=h.c;have h3:=h.d;refine ⟨by simp only;omega,by simp only;rw [BF];omega,by simp only;omega,h.kl,fun x hx=>?_⟩;rcases BK hx with hx | rfl
 ·exact h.cl x hx
 ·exact hc
theorem xz {n:Nd} {i:Nat} {c:Ce} (h:n.Fit) (hl:n.leaf=true):Nd.Fit { n with cells:=n.cells.set i c }:=by
 refine ⟨fun hh=>?_,fun hh=>?_⟩
 ·have:=h.c hl;simp only;rw [BF];exact this
 ·simp only at hh;rw [hl] at hh;cases hh
theorem ny {v:By} {s s':Sf} {c:Ce} (h:(cy v).run s=(s',.ok c)):c.data.length<=40:=by
 unfold cy at h
 split at h
 ·cases h
 ·split at h
  ·rename_i hl
   injection h with _ h
   injection h with h
   rw [<- h];exact hl
  ·rw [run_bind] at h
   split at h
   ·injection h with _ h
    injection h with h
    rw [<- h];exact Nat.zero_le _
   ·cases h
theorem tz (v:By):∀ (j:Nat) (n:Int),(jD v j n).NZ
 | 0,_=>trivial
 | j+1,_=>fun m=>tz v j m
theorem kC (v:By):(cy v).NZ:=by
 unfold cy
 split
 ·exact show (47:Int)≠0 by decide
 ·split
  ·trivial
  ·exact Pro.NZ.bind _ _ (tz v _ _) (fun _=>trivial)
def zq (v:BG):Prop:=∃ (m:Nd) (A1:Option Addr) (n1 c1:Nat) (A2:Option Addr) (n2 c2:Nat) (A3:Option Addr) (n3 c3:Nat),v=.agg #[.bool m.leaf,.slice A1 n1 c1,.slice A2 n2 c2,.slice A3 n3 c3]
def vt (base:Nat) (w:Bz) (e:Ending):Ans (Option Nd)->Prop
 | .ok (some n)=>∃ v,e=.returned (.tuple #[v,.bool true,.int .i64 0])/\NdF base w v n/\n.Fit/\n.Sm 231
 | .ok none=>∃ v,e=.returned (.tuple #[v,.bool false,.int .i64 0])/\zq v
 | .err x=>∃ v b,e=.returned (.tuple #[v,.bool b,.int .i64 x])/\zq v
theorem PN.any {B gn:Nat} {n:Nd} {w:Bz} (h:PN B gn n w):∃ A1 c1 A2 c2 A3 c3,w.heap[gn]?=some (ar n (.slice A1 n.keys.length c1) (.slice A2 n.cells.length c2) (.slice A3 n.kids.length c3))/\NdF B w (.agg #[.bool n.leaf,.slice A1 n.keys.length c1,.slice A2 n.cells.length c2,.slice A3 n.kids.length c3]) n:=by obtain ⟨A1,c1,A2,c2,A3,c3,h0,h1,h2,h3,_⟩:=h;exact ⟨A1,c1,A2,c2,A3,c3,h0,_,_,_,rfl,h1,h2,h3⟩
theorem Lf.Bp {base gn:Nat} {n:Nd} {w:Bz} (h:Lf base gn n w):∃ A1 c1 A2 c2 A3 c3,w.heap[gn]?=some (ar n (.slice A1 n.keys.length c1) (.slice A2 n.cells.length c2) (.slice A3 n.kids.length c3))/\NdF base w (.agg #[.bool n.leaf,.slice A1 n.keys.length c1,.slice A2 n.cells.length c2,.slice A3 n.kids.length c3]) n:=by obtain ⟨A1,c1,A2,c2,A3,c3,h0,h1,h2,h3,_⟩:=h.zZ;exact ⟨A1,c1,A2,c2,A3,c3,h0,_,_,_,rfl,h1.zN aG,h2.zN bx,h3.zN ax⟩
theorem gZ (n c:Nd) (i:Nat):(eh n i c).NZ:=fun _=>Pro.NZ.bind _ _ (cQ _ _) (fun _=>Pro.NZ.bind _ _ (cQ _ _) (fun _=>trivial))
theorem qM (n l r:Nd) (i:Nat):(dh n i l r).NZ:=by
 unfold dh
 split
 ·exact Pro.NZ.bind _ _ (cQ _ _) (fun _=>trivial)
 ·exact Pro.NZ.bind _ _ (cQ _ _) (fun _=>Pro.NZ.bind _ _ (cQ _ _) (fun _=>trivial))
theorem rS (n c:Nd) (i:Nat):(bg n i c).NZ:=by
 unfold bg
 split
 ·exact gZ _ _ _
 ·split
  ·exact Pro.NZ.bind _ _ (cQ _ _) (fun _=>trivial)
  ·split
   ·refine Pro.NZ.bind _ _ (fF _) (fun l=>?_)
    split
    ·exact qM _ _ _ _
    ·exact show (30:Int)≠0 by decide
   ·refine Pro.NZ.bind _ _ (fF _) (fun l=>?_)
    split
    ·exact qM _ _ _ _
    ·exact show (30:Int)≠0 by decide
theorem ig {act:Nd->Pro (Option Nd)} (ha:∀ n,(act n).NZ) (k:By):∀ (f:Nat) (a:Int),(aY act k f a).NZ
 | 0,a=>by
   unfold aY;refine Pro.NZ.bind _ _ (fF _) (fun n=>?_)
   split
   ·exact ha n
   ·exact show (30:Int)≠0 by decide
 | f+1,a=>by
   unfold aY;refine Pro.NZ.bind _ _ (fF _) (fun n=>?_)
   split
   ·exact ha n
   ·refine Pro.NZ.bind _ _ (ig ha k f _) (fun o=>?_);cases o with
    | none=>trivial
    | some c=>exact Pro.NZ.bind _ _ (rS _ _ _) (fun _=>trivial)
def Pro.zP {α:Type} (P:α->Prop):Pro α->Prop
 | .pure a=>P a
 | .fail _=>True
 | .get _ k=>∀ l,(k l).zP P
 | .put _ _ k=>(k ()).zP P
 | .new k=>∀ n,(k n).zP P
 | .free _ k=>(k ()).zP P
theorem Pro.zP.run {α:Type} {P:α->Prop}:∀ (p:Pro α) (s s':Sf) (a:α),p.zP P->p.run s=(s',.ok a)->P a
 | .pure a,s,s',x,h,e=>by injection e with _ e;injection e with e;exact e ▸ h
 | .fail _,s,s',x,h,e=>by cases e
 | .get n k,s,s',x,h,e=>by
   simp only [Pro.run] at e
   split at e
   ·exact Pro.zP.run _ _ _ _ (h _) e
   ·cases e
 | .put n d k,s,s',x,h,e=>by
   simp only [Pro.run] at e
   split at e
   ·exact Pro.zP.run (k ()) _ _ _ h e
   ·cases e
 | .new k,s,s',x,h,e=>by
   simp only [Pro.run] at e
   split at e
   ·exact Pro.zP.run _ _ _ _ (h _) e
   ·cases e
 | .free n k,s,s',x,h,e=>by
   simp only [Pro.run] at e
   split at e
   ·exact Pro.zP.run (k ()) _ _ _ h e
   ·cases e
theorem Pro.zP.bind {α β:Type} {P:β->Prop}:∀ (p:Pro α) (f:α->Pro β),(∀ a,(f a).zP P)->(p.bind f).zP P
 | .pure a,_,hf=>hf a
 | .fail _,_,_=>trivial
 | .get _ k,f,hf=>fun l=>Pro.zP.bind (k l) f hf
 | .put _ _ k,f,hf=>Pro.zP.bind (k ()) f hf
 | .new k,f,hf=>fun n=>Pro.zP.bind (k n) f hf
 | .free _ k,f,hf=>Pro.zP.bind (k ()) f hf
theorem qw {α:Type} {P:α->Prop} {a:Int} {f:Nd->Pro α} (h:∀ x,aD x=true->x.Sm 229->(f x).zP P):((bl a).bind f).zP P:=fun l=>by
 show Pro.zP P ((match dO l with
  | none=>Pro.fail 30
  | some n=>Pro.pure n:Pro Nd).bind f)
 cases hd:dO l with
 | none=>trivial
 | some x=>exact h x (pS hd).1 (pS hd).2
theorem xV {α:Type} {l:List α} {i:Nat} {x:α} (h:i<=l.length):(l.insertIdx i x).length=l.length+1:=Bx h _
theorem xT {α:Type} {l:List α} {i:Nat} {x y:α} (h:i<=l.length) (hy:y ∈ l.insertIdx i x):y=x\/y ∈ l:=by
 rw [iu _ _ _ h] at hy;rcases List.mem_append.1 hy with hy | hy
 ·exact .inr (BH hy)
 ·rcases List.mem_cons.1 hy with rfl | hy
  ·exact .inl rfl
  ·exact .inr (BI hy)
def yX (n:Nd):Prop:=n.Fit/\n.Sm 231/\n.leaf=false
theorem kW {c:Nd} {m:Nat} (h:c.Sm m):(dk c).2.1.length<=64:=by
 unfold dk;have:∀ k,k<c.keys.length\/k=0->∀ x,bZ c k=some x->x.2.1.length<=64:=by
  intro k
  induction k with
  | zero=>intro _ x hx;cases hx
  | succ k ih=>
    intro hk x hx;have hk:k+1<c.keys.length:=by omega
    have hcut:(aS c (k+1)).2.1.length<=64:=by
     unfold aS
     split
     ·show (c.keys.getD (k+1) []).length<=64;rw [Bt,Bv hk];exact h.kl _ (BE hk)
     ·show (c.keys.getD (k+1) []).length<=64;rw [Bt,Bv hk];exact h.kl _ (BE hk)
    have hx:(if ei (aS c (k+1)) then match bZ c k with
     | none=>some (aS c (k+1))
     | some b=>if jP (aS c (k+1))<jP b then some (aS c (k+1)) else some b
    else bZ c k)=some x:=hx
    split at hx
    ·cases hb:bZ c k with
     | none=>rw [hb] at hx;injection hx with hx;subst hx;exact hcut
     | some b=>
       rw [hb] at hx;simp only at hx
       split at hx
       ·injection hx with hx;subst hx;exact hcut
       ·injection hx with hx;subst hx;exact ih (.inl (by omega)) _ hb
    ·exact ih (.inl (by omega)) _ hx
 cases hb:bZ c (c.keys.length - 1) with
 | none=>exact Nat.zero_le _
 | some x=>exact this _ (by omega) x hb
theorem mB {n c:Nd} {i:Nat} {m:Nat} (hf:n.Fit) (hn:n.Sm 229) (hl:n.leaf=false) (hi:i<n.kids.length) (hc:c.Sm m) (hk:0<n.keys.length):(bg n i c).zP yX:=by
 have h1:=hn.k;have h2:=hn.c;have h3:=hn.d;obtain ⟨h4,h5⟩:=hf.d hl;have hn0:yX n:=⟨hf,hn.mono (by decide),hl⟩;have hmeet:∀ (j:Nat) (l r:Nd) (m1 m2:Nat),l.Sm m1->r.Sm m2->j<n.keys.length->(dh n j l r).zP yX:=by
  intro j l r m1 m2 hl1 hr1 hj;have hkj:(n.keys.getD j []).length<=64:=by rw [Bt,Bv hj];exact hn.kl _ (BE hj)
  unfold dh
  split
  ·refine Pro.zP.bind _ _ fun _=>?_
   show yX _;have e1:=(BC n.keys j).length_le;have e2:=(BC n.kids (j+1)).length_le;refine ⟨⟨fun hh=>?_,fun _=>⟨?_,h5⟩⟩,⟨by simp only;omega,by simp only;omega,by simp only;omega,fun k hk=>hn.kl k (kZ hk),hn.cl⟩,hl⟩
   ·simp only at hh;rw [hl] at hh;cases hh
   ·simp only;rw [BB (by omega),BB hj];omega
  ·refine Pro.zP.bind _ _ fun _=>Pro.zP.bind _ _ fun _=>?_
   show yX _;refine ⟨⟨fun hh=>?_,fun _=>⟨?_,h5⟩⟩,⟨by simp only;rw [BF];omega,by simp only;omega,by simp only;omega,fun k hk=>?_,hn.cl⟩,hl⟩
   ·simp only at hh;rw [hl] at hh;cases hh
   ·simp only;rw [BF];exact h4
   ·rcases BK hk with hk | rfl
    ·exact hn.kl k hk
    ·exact kW (tF hl1 hr1 hkj)
 unfold bg
 split
 ·refine fun a=>Pro.zP.bind _ _ fun _=>Pro.zP.bind _ _ fun _=>?_
  show yX _;refine ⟨⟨fun hh=>?_,fun _=>⟨?_,h5⟩⟩,⟨by simp only;rw [xV (by omega)];omega,by simp only;omega,by simp only;rw [xV (by omega)];omega,fun k hk=>?_,hn.cl⟩,hl⟩
  ·simp only at hh;rw [hl] at hh;cases hh
  ·simp only;rw [xV (by omega),xV (by omega)];omega
  ·rcases xT (by omega) hk with rfl | hk
   ·exact kW hc
   ·exact hn.kl k hk
 ·split
  ·exact Pro.zP.bind _ _ fun _=>hn0
  ·split
   ·refine qw fun x hg hx=>?_
    split
    ·exact hmeet _ _ _ _ _ hx hc (by omega)
    ·trivial
   ·refine qw fun x hg hx=>?_
    split
    ·exact hmeet _ _ _ _ _ hc hx hk
    ·trivial
theorem Own.AS {α:Type} {f:α->List BG} {size:Nat} {e:TypeId} {base:Nat} {w:Bz} {v:BG} {xs:List α} (h:Own f size e base w v xs) {k:Nat} (hk:v.ownBlock=some k):∃ cur,w.heap[k]?=some (.cells cur e (0,0)):=by
 rcases h.2 with ⟨rfl,_⟩ | ⟨g,cap,cur,rfl,_,hg,_⟩
 ·cases hk
 ·have hk:some g=some k:=hk;injection hk with hk
  exact ⟨cur,hk ▸ hg⟩
theorem Lf.Bo {base gn:Nat} {n:Nd} {w w':Bz} (h:Lf base gn n w) (hb:Below w.heap.size w w') {v1 v2 v3:BG} (h':w'.heap[gn]?=some (ar n v1 v2 v3)):∀ k,v2.ownBlock=some k->k<w.heap.size:=by
 obtain ⟨vk,vc,vd,h0,h1,h2,h3,_⟩:=h.is;have e:=(af h0 hb).symm.trans h';injection e with e
 injection e with e
 obtain ⟨-,e2,-⟩:=sS e;intro k hk;rw [<- e2] at hk;exact (h2.lt k hk).2
structure CapP (base g1 g2 g3 gs gm:Nat) (k v:By) (w:Bz):Prop where
 c:Cap base g1 g2 gs gm k w
 v:w.heap[g3]?=some (.cells #[.string (ap v)] 9 (0,0))
 l3:g3<base
 n5:g3≠gs
 n6:g3≠gm
theorem CapP.ch {base g1 g2 g3 gs gm:Nat} {k v:By} {w w':Bz} {S:Nat->Prop} (h:CapP base g1 g2 g3 gs gm k v w) (hc:Ch S w w') (h1:¬ S g1) (h2:¬ S g2) (h3:¬ S g3):CapP base g1 g2 g3 gs gm k v w':=⟨h.c.ch hc h1 h2,hc.keep h.v h3,h.l3,h.n5,h.n6⟩
theorem CapP.mono {base base' g1 g2 g3 gs gm:Nat} {k v:By} {w:Bz} (h:CapP base g1 g2 g3 gs gm k v w) (hb:base<=base'):CapP base' g1 g2 g3 gs gm k v w:=⟨h.c.mono hb,h.v,BJ h.l3 hb,h.n5,h.n6⟩
theorem sb {k v:By} {n:Nd} {c:Ce} (h:jT n.keys k=true) (hc:n.cells.getD (cj n.keys k) ⟨0,[],0⟩=c):aP k v n=(cM c).bind fun _=>(cy v).bind fun c=>.pure (some { n with cells:=n.cells.set (cj n.keys k) c }):=by unfold aP;rw [h,hc];rfl
theorem qA {k v:By} {n:Nd} (h:jT n.keys k=false):aP k v n=(cy v).bind fun c=>.pure (some { n with keys:=n.keys.insertIdx (cj n.keys k) k,cells:=n.cells.insertIdx (cj n.keys k) c }):=by unfold aP;rw [h];rfl
theorem vR (n:Nd) (k vl:By) (base g1 g2 g3 gs gm gn:Nat) (s:Sf) (w:Bz) (hS:ShIs w gs gm s) (hC:CapP base g1 g2 g3 gs gm k vl w) (hL:Lf base gn n w) (hg:aD n=true) (hl:n.leaf=true) (hn:n.Sm 230)
  (hk:k.length<=64) (hv:vl.length<=1000000) (h1:gs<base) (h2:gm<base) (h3:base<=gn):
  Calls Tryz.prog 68 #[.pointer (some ⟨gn,0,none⟩),.pointer (some ⟨g1,0,none⟩),.pointer (some ⟨g2,0,none⟩),.pointer (some ⟨g3,0,none⟩)] w fun e w'=>DoP base gn w' e ((aP k vl n).run s).2/\ShIs w' gs gm ((aP k vl n).run s).1/\Ch (jm base gs gm) w w':=by
 have HS:=Z hS;have HC:=Z hC;have HL:=Z hL;have HSN:=Z hn;have HFT:=Z (dw hg);have hkk:=hn.k;have hkc:=hn.c;have hgn:=hL.lt;have HLE:=Z (tw n k);have HIL:=Z (fun (h:jT n.keys k=true)=>yp h (dw hg) hl);obtain ⟨A1,c1,A2,c2,A3,c3,e0,e1,e2,e3,-⟩:=hL.zZ;have HFI:=Z (fun (y:Up w)=>kw n k _ y.w ((NdV.AB e1 e2 e3).keep y.h) (hn.bd (by decide)) hg);have HLF:=Z hl;have HCL:=Z ((dw hg).c hl).1;have a0:=bj (ae e0 0) hgn;have a1:=bj (ae e0 1) hgn;have a2:=bj (ae e0 2) hgn;have a3:=bj (ae e0 3) hgn;have hl1:=aj hC.c.k;have b1:=bj (ae hC.c.k 0) hl1;clear e0 e1 e2 e3 hS hC hL hn hl hg;go_enter Tryz.func68,Tryz.ntmps68;go_wp2_with fail;refine aM (by kernel_rfl) (by kernel_rfl) ?_
 repeat (go_big_quiet_step (first | (go_at_call 60;exact eF (HFI.out _))))
 refine wpQuiet_nil ?_;rintro w2 ⟨⟨_,hb⟩,rfl⟩;have HS2:=Z (HS.out.ch (S:=fun _=>False) (Ch.zK hb) id id);have HL2:=Z (HL.out.keep hb);have HC2:=Z (HC.out.ch (S:=fun _=>False) (Ch.zK hb) id id id);have HH2:=Z (show Ch (jm base gs gm) w w2 from Ch.zK hb);clear hb a0 a1 a2 a3 b1 hl1 HFI;have hle:=HLE.out;cases his:jT n.keys k
 ·have HV:=Z (qA (v:=vl) his);clear HIL HLE his;generalize cj n.keys k=i at *;have b2:=ae HC2.out.c.p 0;have hl2:=aj HC2.out.c.p;have b3:=ae HC2.out.v 0;have hl3:=aj HC2.out.v;have HCE:=Z (nw vl gs gm s w2 HS2.out (by omega));unfold co at HCE b2;go_wp2_with fail;refine HCE.out.mono ?_;rintro e wq ⟨rfl,hs,hc⟩;have HSc:=Z hs;have HLc:=Z (HL2.out.ch hc (fun k hk e=>by omega) (by omega));have HCc:=Z (HC2.out.ch hc (fun e=>e.elim HC2.out.c.n1 HC2.out.c.n2) (fun e=>e.elim HC2.out.c.n3 HC2.out.c.n4) (fun e=>e.elim HC2.out.n5 HC2.out.n6));have HHc:=Z (HH2.out.trans (hc.mono (S':=jm base gs gm) (fun _ _ e=>e.elim .inl (fun e=>.inr (.inl e)))));clear hs hc b2 hl2 b3 hl3 HCE;have hnzc:=Pro.NZ.run (cy vl) s;have hdat:∀ {s':Sf} {c:Ce},(cy vl).run s=(s',.ok c)->c.data.length<=40:=ny;obtain ⟨⟨s6,a⟩,hx⟩:∃ x,(cy vl).run s=x:=⟨_,rfl⟩;rw [hx] at HSc hnzc hdat ⊢;have HXC:=Z hx;clear hx;rcases a with c | x
  case err=>
   have hx0:¬ x=0:=hnzc x (kC _) rfl;have hx1:(x == 0)=false:=by simpa using hx0
   have HW:=Z (show (aP k vl n).run s=(s6,.err x) from by rw [HV.out];exact aq HXC.out);simp only [vi,kF];have HB:=Z (show Below wq.heap.size wq (wq.alloc (dj ⟨0,[],0⟩)) from (Below.refl _ wq).alloc (Bw _) _);have HLd:=Z (HLc.out.keep HB.out);have HSd:=Z (HSc.out.ch (S:=fun _=>False) (Ch.zK HB.out) id id);have HHd:=Z (HHc.out.trans (Ch.zK (S:=jm base gs gm) HB.out));go_wp2_with fail;go_ret2;rw [HW.out];exact ⟨⟨rfl,HLd.out.any⟩,HSd.out,HHd.out⟩
  have HCD:=Z (hdat rfl);have hnzc2:=hnzc;clear hnzc hdat hnzc2;simp only [vi,kF];have HB:=Z (show Below wq.heap.size wq (wq.alloc (dj c)) from (Below.refl _ wq).alloc (Bw _) _);have HCB:=Z (ag (w0:=wq) (g:=wq.heap.size) (o:=dj c) rfl);go_upto_region 7 with fail
  generalize hw1:wq.alloc (.cells #[.int .i64 c.size,.string (ap c.data),.int .i64 c.page] 119)=wd at *;have hw2:wq.alloc (dj c)=wd:=hw1;rw [hw2] at HB HCB;clear hw1 hw2;have HLd:=Z (HLc.out.keep HB.out);have HSd:=Z (HSc.out.ch (S:=fun _=>False) (Ch.zK HB.out) id id);have HCd:=Z (HCc.out.ch (S:=fun _=>False) (Ch.zK HB.out) id id id);have HHd:=Z (HHc.out.trans (Ch.zK (S:=jm base gs gm) HB.out));have hszd:=HB.out.size;have hszc:=HHc.out.size;have HLO:=Z (fun (v1 v2 v3:BG) (h':wd.heap[gn]?=some (ar n v1 v2 v3))=>HLc.out.Bo HB.out h');clear HLc HSc HCc HHc;have HW:=Z (show (aP k vl n).run s=(s6,.ok (some { n with keys:=n.keys.insertIdx i k,cells:=n.cells.insertIdx i c })) by rw [HV.out];exact ah HXC.out);obtain ⟨A1,c1,A2,c2,A3,c3,e0,e1,e2,e3,d1,d2,d3,x1,x2,x3⟩:=HLd.out.zZ;have H0:=Z e0;have HO2:=Z e2;have HO3:=Z e3;have HD1:=Z d1;have HD2:=Z d2;have HD3:=Z d3;have HX1:=Z x1;have HX2:=Z x2;have HX3:=Z x3;have hgd:=HLd.out.lt;have HOL:=Z (fun k hk=>(e1.lt k hk).1)
  have HRC:=Z (show ∀ k,(Value.slice A1 n.keys.length c1).ownBlock=some k->k≠wq.heap.size from fun k hk e=>by
   obtain ⟨cur,hcur⟩:=e1.AS hk;rw [e,HCB.out] at hcur;injection hcur with hcur
   injection hcur with _ ht
   exact absurd ht (by decide))
  have HOA:=Z (Own.drew (e1.alloc (.cells #[.string (ap k)] 9)));have HVB:=Z (show (wd.alloc (.cells #[.string (ap k)] 9)).drew.heap[wd.heap.size]?=some (.cells (sC k).toArray 9 (0,0)) from ag rfl);have HNE:=Z (show (Value.slice A1 n.keys.length c1).ownBlock≠some wd.heap.size from fun e=>by have:=(e1.lt _ e).2;omega);have HIN:=Z (qX n.keys i k base wd.heap.size 1 (.slice A1 n.keys.length c1) 9 (wd.alloc (.cells #[.string (ap k)] 9)).drew HOA.out hle (by show base<=(wd.alloc (.cells #[.string (ap k)] 9)).heap.size;simp;omega) (by omega) HVB.out HNE.out);have HBW:=Z (show Below wd.heap.size wd (wd.alloc (.cells #[.string (ap k)] 9)).drew from ((Below.refl _ wd).alloc (Bw _) _).drew);have hs1:(wd.alloc (.cells #[.string (ap k)] 9)).drew.heap.size=wd.heap.size+1:=(by simp);have hs2:(wd.alloc (.cells #[.string (ap k)] 9)).heap.size=wd.heap.size+1:=(by simp);obtain ⟨n0,n1,n2,n3,n4⟩:=aa e0;have fn:=ab e0;have b1:=ae HCd.out.c.k 0;have hl1:=aj HCd.out.c.k;clear e0 e1 e2 e3 d1 d2 d3 x1 x2 x3 HOA HVB HNE;have hi0:(0:Int)<=(i:Int):=by omega
  go_wp2_with fail
  go_cut [] from 50 to 60 (fun we=>∃ (E1:Option Addr) (e1:Nat),we.heap[gn]?=some (ar n (.slice E1 (n.keys.insertIdx i k).length e1) (.slice A2 n.cells.length c2) (.slice A3 n.kids.length c3))/\
   Own sC 1 9 base we (.slice E1 (n.keys.insertIdx i k).length e1) (n.keys.insertIdx i k)/\Own cC 3 119 base we (.slice A2 n.cells.length c2) n.cells/\Own iC 1 3 base we (.slice A3 n.kids.length c3) n.kids/\
   Dis (.slice E1 (n.keys.insertIdx i k).length e1) (.slice A2 n.cells.length c2)/\Dis (.slice E1 (n.keys.insertIdx i k).length e1) (.slice A3 n.kids.length c3)/\Ne (.slice E1 (n.keys.insertIdx i k).length e1) gn/\Ch (fun k=>base<=k) wd we/\we.heap[wq.heap.size]?=some (dj c))
  case first=>
   go_region_law (first
    | (go_simp
       go_at_call 71;refine HIN.out.mono ?_;rintro e we ⟨v',rfl,ho,hg,hat⟩;have HGR:=Z hg;have HOW:=Z ho;have HAT:=Z hat;obtain ⟨E1,e1,rfl⟩:=ho.form;have HNW:=Z (show we.heap[gn]?=_ from (hg.block gn (by rw [hs1];omega) (fun e=>HX1.out gn e.symm rfl)).trans (af H0.out HBW.out));obtain ⟨m0,m1,m2,m3,m4⟩:=aa HNW.out;have fm:=ab HNW.out;clear ho hg hat))
   all_goals
    go_wp2_with fail;go_meet
    case rel=>
     have hc:=(Ch.refl (fun k=>k=gn) we).setCell (p:=⟨gn,1,none⟩) rfl (.slice E1 (n.keys.insertIdx i k).length e1);have hat:=HAT.out
     have hne:Ne (.slice E1 (n.keys.insertIdx i k).length e1) gn:=fun q hq e=>by
      rcases hat with h | h
      ·exact HX1.out q (h.symm.trans hq) e
      ·rw [h] at hq;injection hq with hq
       omega
     exact ⟨E1,e1,ai HNW.out 1 _,HOW.out.ch hc hne,((Own.drew (HO2.out.alloc _)).dis HGR.out HD1.out.symm).ch hc HX2.out,((Own.drew (HO3.out.alloc _)).dis HGR.out HD2.out.symm).ch hc HX3.out,
      HD1.out.app hat (Own.drew (HO2.out.alloc _)),HD2.out.app hat (Own.drew (HO3.out.alloc _)),hne,
      ((Ch.zK (S:=fun k=>base<=k) HBW.out).trans (Ch.zL HGR.out (fun q e=>HOL.out q e))).trans (hc.mono (fun q _ e=>by omega)),
      hc.keep ((HGR.out.block wq.heap.size (by rw [hs1];omega) (fun e=>HRC.out _ e.symm rfl)).trans (af HCB.out HBW.out)) (by omega)⟩
  case rest=>
  obtain ⟨E1,e1,f0,f1,f2,f3,d1,d2,x1,hcw,hcb⟩:=hcut;have HWD:=Z hcw;have H0:=Z f0;have HO1:=Z f1;have HO3:=Z f3;have HD1:=Z d1;have HD2:=Z d2;have HX1:=Z x1;have hgw:=aj f0;have hsw:=hcw.size;have hlc2:i<=n.cells.length:=by have:=HCL.out;omega
  have HOL:=Z (fun k hk=>(f2.lt k hk).1);have HOA:=Z (Own.drew (f2.alloc (dj c)));have HVB:=Z (show (wc.alloc (dj c)).drew.heap[wc.heap.size]?=some (.cells (cC c).toArray 119 (0,0)) from ag rfl);have HNE:=Z (show (Value.slice A2 n.cells.length c2).ownBlock≠some wc.heap.size from fun e=>by have:=(f2.lt _ e).2;omega);have HIN:=Z (wC n.cells i c base wc.heap.size 1 (.slice A2 n.cells.length c2) 119 (wc.alloc (dj c)).drew HOA.out hlc2 (by show base<=(wc.alloc (dj c)).heap.size;simp;omega) (by omega) HVB.out HNE.out);have HBW:=Z (show Below wc.heap.size wc (wc.alloc (dj c)).drew from ((Below.refl _ wc).alloc (Bw _) _).drew);have hs1:(wc.alloc (dj c)).drew.heap.size=wc.heap.size+1:=(by simp);clear n0 n1 n2 n3 n4 fn b1 hl1;obtain ⟨n0,n1,n2,n3,n4⟩:=aa f0;obtain ⟨p0,p1,p2,p3,p4,p5,p6⟩:=aN hcb;clear f0 f1 f2 f3 d1 d2 x1 HOA HVB HNE hcb hcw;go_wp2_with fail;go_region_law (first
   | (go_simp
      go_at_call 72;refine HIN.out.mono ?_;rintro e wf ⟨v',rfl,ho,hg,hat⟩;have HGR:=Z hg;have HOW:=Z ho;have HAT:=Z hat;obtain ⟨E2,e2,rfl⟩:=ho.form;have HNW:=Z (show wf.heap[gn]?=_ from (hg.block gn (by rw [hs1];omega) (fun e=>HX2.out gn e.symm rfl)).trans (af H0.out HBW.out));obtain ⟨m0,m1,m2,m3,m4⟩:=aa HNW.out;have fm:=ab HNW.out;clear ho hg hat))
  all_goals
   go_wp2_with fail;go_ret2;rw [HW.out];have hc:=(Ch.refl (fun k=>k=gn) wf).setCell (p:=⟨gn,2,none⟩) rfl (.slice E2 (n.cells.insertIdx i c).length e2);have hat:=HAT.out
   have hne:Ne (.slice E2 (n.cells.insertIdx i c).length e2) gn:=fun q hq e=>by
    rcases hat with h | h
    ·exact HX2.out q (h.symm.trans hq) e
    ·rw [h] at hq;injection hq with hq
     omega
   have hcg:Ch (fun k=>base<=k) wc _:=((Ch.zK (S:=fun k=>base<=k) HBW.out).trans (Ch.zL HGR.out (fun q e=>HOL.out q e))).trans (hc.mono (fun q _ e=>by omega));refine ⟨⟨rfl,⟨⟨_,_,_,ai HNW.out 2 _,((Own.drew (HO1.out.alloc _)).dis HGR.out HD1.out).ch hc HX1.out,HOW.out.ch hc hne,((Own.drew (HO3.out.alloc _)).dis HGR.out HD3.out.symm).ch hc HX3.out,
    (HD1.out.symm.app hat (Own.drew (HO1.out.alloc _))).symm,HD2.out,HD3.out.app hat (Own.drew (HO3.out.alloc _)),HX1.out,hne,HX3.out⟩⟩,yC HSN.out hk HCD.out hle hlc2,xG HFT.out HLF.out hle⟩,
    (HSd.out.ch HWD.out (by omega) (by omega)).ch hcg (by omega) (by omega),(HHd.out.trans (HWD.out.mono (fun q _ e=>.inr (.inr e)))).trans (hcg.mono (fun q _ e=>.inr (.inr e)))⟩
 ·obtain ⟨hlk,hlc⟩:=HIL.out his;obtain ⟨c0,hcc⟩:∃ c,n.cells[cj n.keys k]=c:=⟨_,rfl⟩;have HV:=Z (sb (v:=vl) his (show n.cells.getD (cj n.keys k) ⟨0,[],0⟩=c0 by rw [Bt,Bv hlc,hcc];rfl));have hcl:c0.data.length<=40:=by rw [<- hcc];exact HSN.out.cl _ (BE hlc)
  have HCC:=Z hcc;clear HIL HLE his hcc;generalize cj n.keys k=i at *;obtain ⟨A1,c1,A2,c2,A3,c3,e0,e1,e2,e3,d1,d2,d3,x1,x2,x3⟩:=HL2.out.zZ;obtain ⟨gc,c2',ee,hgc,hgc'⟩:=e2.zS (by intro e;rw [e] at hlc;simp at hlc);injection ee with y1 y2 y3
  subst y1 y3;clear y2;obtain ⟨b,off,he,hbl,hn',f0,f1,f2⟩:=(e2.sl bx).zT hlc;injection he with he
  injection he with he he2
  subst he he2;rw [HCC.out,Nat.zero_add] at f0 f1 f2;obtain ⟨n0,n1,n2,n3,n4⟩:=aa e0;have b2:=ae HC2.out.c.p 0;have hl2:=aj HC2.out.c.p;have hi0:(0:Int)<=(i:Int):=by omega
  have hi1:(i:Int)<(n.cells.length:Int):=by omega
  clear e0 e1 e2 e3 d1 d2 d3 x1 x2 x3 hn';have HCF:=Z (oU c0 gs gm s w2.drew (HS2.out.ch (S:=fun _=>False) (Ch.refl _ w2).drew id id) (by omega));unfold kF co at HCF;unfold co at b2;go_upto_if 20 with fail
  go_wp2_with fail;go_cut [9] from 21 to 31 (fun ev wc=>ev=dW ((cM c0).run s).2/\ShIs wc gs gm ((cM c0).run s).1/\Ch (fun k=>k=gs\/k=gm) w2 wc)
  case first=>
   go_region_law (first
    | (go_simp
       go_at_call 69;refine HCF.out.mono ?_;rintro e w5 ⟨rfl,hs,hc⟩;have HS5:=Z hs;have HH5:=Z ((Ch.refl _ w2).drew.trans hc);clear hs hc))
   all_goals
    go_wp2_with fail;go_meet
    case rel=>exact ⟨rfl,HS5.out,HH5.out⟩
  case rest=>
  obtain ⟨rfl,hs5,hh5⟩:=hcut;have HS5:=Z hs5;have HL5:=Z (HL2.out.ch hh5 (fun k hk e=>by omega) (by omega));have HC5:=Z (HC2.out.ch hh5 (fun e=>e.elim HC2.out.c.n1 HC2.out.c.n2) (fun e=>e.elim HC2.out.c.n3 HC2.out.c.n4) (fun e=>e.elim HC2.out.n5 HC2.out.n6));have HH5:=Z (HH2.out.trans (hh5.mono (S':=jm base gs gm) (fun _ _ e=>e.elim .inl (fun e=>.inr (.inl e)))));clear hs5 hh5 n0 n1 n2 n3 n4 f0 f1 f2 b2 hl2 HCF;have hnz:=Pro.NZ.run (cM c0) s;obtain ⟨⟨s5,a⟩,hx⟩:∃ x,(cM c0).run s=x:=⟨_,rfl⟩;rw [hx] at HS5 hnz ⊢;rcases a with u | x
  case err=>
   have hx0:¬ x=0:=hnz x (jy _) rfl;have hx1:(x == 0)=false:=by simpa using hx0
   have HW:=Z (show (aP k vl n).run s=(s5,.err x) by rw [HV.out];exact aq hx);simp only [dW];go_wp2_with fail;go_ret2;rw [HW.out];exact ⟨⟨rfl,HL5.out.any⟩,HS5.out,HH5.out⟩
  have HRV:=Z (show (aP k vl n).run s=((cy vl).bind fun c=>.pure (some { n with cells:=n.cells.set i c })).run s5 by rw [HV.out];exact ah hx);simp only [dW];clear hnz hx;have b2:=ae HC5.out.c.p 0;have hl2:=aj HC5.out.c.p;have b3:=ae HC5.out.v 0;have hl3:=aj HC5.out.v;have HCE:=Z (nw vl gs gm s5 wc HS5.out (by omega));unfold co at HCE b2;go_wp2_with fail;refine HCE.out.mono ?_;rintro e wq ⟨rfl,hs,hc⟩;have HSc:=Z hs;have HLc:=Z (HL5.out.ch hc (fun k hk e=>by omega) (by omega));have HCc:=Z (HC5.out.ch hc (fun e=>e.elim HC5.out.c.n1 HC5.out.c.n2) (fun e=>e.elim HC5.out.c.n3 HC5.out.c.n4) (fun e=>e.elim HC5.out.n5 HC5.out.n6));have HHc:=Z (HH5.out.trans (hc.mono (S':=jm base gs gm) (fun _ _ e=>e.elim .inl (fun e=>.inr (.inl e)))));clear hs hc b2 hl2 b3 hl3 HCE;have hnzc:=Pro.NZ.run (cy vl) s5;have hdat:∀ {s':Sf} {c:Ce},(cy vl).run s5=(s',.ok c)->c.data.length<=40:=ny;obtain ⟨⟨s6,a⟩,hx⟩:∃ x,(cy vl).run s5=x:=⟨_,rfl⟩;rw [hx] at HSc hnzc hdat ⊢;have HXC:=Z hx;clear hx;rcases a with c | x
  case err=>
   have hx0:¬ x=0:=hnzc x (kC _) rfl;have hx1:(x == 0)=false:=by simpa using hx0
   have HW:=Z (show (aP k vl n).run s=(s6,.err x) from by rw [HRV.out];exact aq HXC.out);simp only [vi,kF];have HB:=Z (show Below wq.heap.size wq (wq.alloc (dj ⟨0,[],0⟩)) from (Below.refl _ wq).alloc (Bw _) _);have HLd:=Z (HLc.out.keep HB.out);have HSd:=Z (HSc.out.ch (S:=fun _=>False) (Ch.zK HB.out) id id);have HHd:=Z (HHc.out.trans (Ch.zK (S:=jm base gs gm) HB.out));go_wp2_with fail;go_ret2;rw [HW.out];exact ⟨⟨rfl,HLd.out.any⟩,HSd.out,HHd.out⟩
  have HCD:=Z (hdat rfl);have hnzc2:=hnzc;clear hnzc hdat hnzc2;simp only [vi,kF];have HB:=Z (show Below wq.heap.size wq (wq.alloc (dj c)) from (Below.refl _ wq).alloc (Bw _) _);have HCB:=Z (ag (w0:=wq) (g:=wq.heap.size) (o:=dj c) rfl);go_upto_region 7 with fail
  generalize hw1:wq.alloc (.cells #[.int .i64 c.size,.string (ap c.data),.int .i64 c.page] 119)=wd at *;have hw2:wq.alloc (dj c)=wd:=hw1;rw [hw2] at HB HCB;clear hw1 hw2;have HLd:=Z (HLc.out.keep HB.out);have HSd:=Z (HSc.out.ch (S:=fun _=>False) (Ch.zK HB.out) id id);have HCd:=Z (HCc.out.ch (S:=fun _=>False) (Ch.zK HB.out) id id id);have HHd:=Z (HHc.out.trans (Ch.zK (S:=jm base gs gm) HB.out));have hszd:=HB.out.size;have hszc:=HHc.out.size;have HLO:=Z (fun (v1 v2 v3:BG) (h':wd.heap[gn]?=some (ar n v1 v2 v3))=>HLc.out.Bo HB.out h');clear HLc HSc HCc HHc;have HW:=Z (show (aP k vl n).run s=(s6,.ok (some { n with cells:=n.cells.set i c })) by rw [HRV.out];exact ah HXC.out);obtain ⟨A1,c1,A2,c2,A3,c3,e0,e1,e2,e3,d1,d2,d3,x1,x2,x3⟩:=HLd.out.zZ;obtain ⟨gc,c2',ee,hgc,hgc'⟩:=e2.zS (by intro e;rw [e] at hlc;simp at hlc);injection ee with y1 y2 y3
  subst y1 y3;clear y2;have HOS:=Z (e2.set bx hlc c);have hgd:=HLd.out.lt;have H0:=Z e0;have HO1:=Z e1;have HO3:=Z e3;have HD1:=Z d1;have HD2:=Z d2;have HD3:=Z d3;have HX1:=Z x1;have HX3:=Z x3;have hcn:gc≠gn:=x2 gc rfl;obtain ⟨cur,hg8,hcz⟩:∃ cur:Array BG,wd.heap[gc]?=some (.cells cur 119 (0,0))/\n.cells.length * 3<=cur.size:=by
   rcases e2.2 with ⟨hv,_⟩ | ⟨g',cap,cur,hv,_,hg,hnc,hm,hc,ht⟩
   ·cases hv
   ·injection hv with e1 e2 e3
    injection e1 with e1
    injection e1 with e1
    subst e1;exact ⟨cur,hg,by rw [hc];exact Nat.mul_le_mul_right _ hnc⟩
  have HG8:=Z hg8;have f0:wd.cell? ⟨gc,i * 3,none⟩=some (cur[i * 3]'(by omega)):=by rw [ae hg8,BD (by omega)]
  have f1:wd.cell? ⟨gc,i * 3+1,none⟩=some (cur[i * 3+1]'(by omega)):=by rw [ae hg8,BD (by omega)]
  have f2:wd.cell? ⟨gc,i * 3+2,none⟩=some (cur[i * 3+2]'(by omega)):=by rw [ae hg8,BD (by omega)]
  have z0:=ab hg8 (i * 3);have z1:=ab hg8 (i * 3+1);have z2:=ab hg8 (i * 3+2);obtain ⟨n0,n1,n2,n3,n4⟩:=aa e0;obtain ⟨p0,p1,p2,p3,p4,p5,p6⟩:=aN HCB.out;have hcq:¬ (gc=wq.heap.size):=by have:=HLO.out _ _ _ H0.out gc rfl;omega
  have hcq':¬ (wq.heap.size=gc):=fun e=>hcq e.symm
  have hcn':¬ (gn=gc):=fun e=>hcn e.symm
  clear e0 e1 e2 e3 d1 d2 d3 x1 x2 x3 hg8;go_wp2_with fail;go_region;have hc:=dx (g:=gc) (cC c) (i * 3) wd;have hos:Own cC 3 119 base (((wd.setCell ⟨gc,i * 3,none⟩ (.int .i64 c.size)).setCell ⟨gc,i * 3+1,none⟩ (.string (ap c.data))).setCell ⟨gc,i * 3+2,none⟩ (.int .i64 c.page)) (.slice (some ⟨gc,0,none⟩) n.cells.length c2) (n.cells.set i c):=HOS.out;have hc2:Ch (fun k=>k=gc) wd (((wd.setCell ⟨gc,i * 3,none⟩ (.int .i64 c.size)).setCell ⟨gc,i * 3+1,none⟩ (.string (ap c.data))).setCell ⟨gc,i * 3+2,none⟩ (.int .i64 c.page)):=hc;generalize ((wd.setCell ⟨gc,i * 3,none⟩ (.int .i64 c.size)).setCell ⟨gc,i * 3+1,none⟩ (.string (ap c.data))).setCell ⟨gc,i * 3+2,none⟩ (.int .i64 c.page)=W at *;have HCH:=Z hc2.drew;have HOW:=Z hos.drew;clear hc hc2 hos f0 f1 f2 z0 z1 z2 n0 n1 n2 n3 n4 p0 p1 p2 p3 p4 p5 p6;go_wp2_with fail;go_ret2;rw [HW.out];have hlen:(n.cells.set i c).length=n.cells.length:=BF
  refine ⟨⟨rfl,⟨⟨_,_,_,HCH.out.keep H0.out hcn',HO1.out.ch HCH.out (fun q hq e=>HD1.out q hq (by rw [e];rfl)),HOW.out,HO3.out.ch HCH.out (fun q hq e=>HD3.out.symm q hq (by rw [e];rfl)),HD1.out,HD2.out,HD3.out,HX1.out,fun q hq e=>by have hq:some gc=some q:=hq;injection hq with hq;omega,HX3.out⟩⟩,yz HSN.out HCD.out,xz HFT.out HLF.out⟩,
   HSd.out.ch HCH.out (by omega) (by omega),HHd.out.trans (HCH.out.mono (S':=jm base gs gm) (fun q _ e=>.inr (.inr (by omega))))⟩
end Go.Proofs.YtknioodagnjchaaGreatDoor
