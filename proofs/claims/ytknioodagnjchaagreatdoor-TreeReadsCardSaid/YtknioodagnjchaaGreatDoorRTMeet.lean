/- tree.meet. -/
import Derived.Test.YtknioodagnjchaaGreatDoorRTPart
set_option maxRecDepth 100000
set_option maxHeartbeats 40000000
namespace Go.Proofs.YtknioodagnjchaaGreatDoor
open Go.Lib (hid)
open Go.RowKit
theorem Own.form2 {α:Type} {f:α→List Value} {size:Nat} {e:TypeId} {base:Nat} {w:World} {v:Value} {xs:List α} (h:Own f size e base w v xs) (hne:xs≠[]):∃ g c,v=.slice (some ⟨g,0,none⟩) xs.length c∧base≤g∧g<w.heap.size:=by
 rcases h.2 with ⟨rfl,h0⟩ | ⟨g,cap,cur,rfl,hb,hg,_⟩
 ·exact absurd (List.eq_nil_of_length_eq_zero h0) hne
 ·exact ⟨g,cap,rfl,hb,aj hg⟩
theorem PN.mk' {B gn:Nat} {n:Nd} {w:World} {v1 v2 v3:Value} (h0:w.heap[gn]?=some (ap n v1 v2 v3)) (h1:SlF sC 1 B w v1 n.keys) (h2:SlF cC 3 B w v2 n.cells) (h3:SlF iC 1 B w v3 n.kids) (m1:Ne v1 gn) (m2:Ne v2 gn) (m3:Ne v3 gn):PN B gn n w:=by obtain ⟨A1,c1,rfl,-,-⟩:=h1.cap;obtain ⟨A2,c2,rfl,-,-⟩:=h2.cap;obtain ⟨A3,c3,rfl,-,-⟩:=h3.cap;exact ⟨A1,c1,A2,c2,A3,c3,h0,h1,h2,h3,m1,m2,m3⟩
theorem PN.out {B gn:Nat} {n:Nd} {w:World} (h:PN B gn n w):gn<w.heap.size:=by obtain ⟨_,_,_,_,_,_,h,_⟩:=h;exact aj h
theorem qT (n l r:Nd) (i:Nat) (s:Sf) (J pl pr:Nd) (pk kb:By) (a b:Int) (hj:bw l kb r=J) (hk:n.keys.getD i []=kb) (h:cw J=(pl,pk,pr)) (ha:n.kids.getD i 0=a) (hb:n.kids.getD (i+1) 0=b):(ct n i l r).run s=if bX J=true then
  ((aC a J).bind fun _=>.free b fun _=>.pure { n with keys:=n.keys.eraseIdx i,kids:=n.kids.eraseIdx (i+1) }).run s
 else ((aC a pl).bind fun _=>(aC b pr).bind fun _=>.pure { n with keys:=n.keys.set i pk }).run s:=by
 unfold ct;rw [hk,hj,h,ha,hb]
 split <;> rfl
theorem oY {l r:Nd} {b:By} {m m':Nat} (h1:l.Sm m) (h2:r.Sm m') (hb:b.length≤64):(bw l b r).Sm (m+m'+1):=by
 have k1:=h1.k;have k2:=h2.k;have c1:=h1.c;have c2:=h2.c;have d1:=h1.d;have d2:=h2.d;refine ⟨?_,by simp [bw];omega,by simp [bw];omega,fun k hk=>?_,fun c hc=>?_⟩
 ·unfold bw;simp only [List.length_append]
  split
  ·simp;omega
  ·simp;omega
 ·simp only [bw,List.mem_append] at hk;rcases hk with (hk | hk) | hk
  ·exact h1.kl k hk
  ·split at hk
   ·cases hk
   ·simp at hk;subst hk;exact hb
  ·exact h2.kl k hk
 ·simp only [bw,List.mem_append] at hc;rcases hc with hc | hc
  ·exact h1.cl c hc
  ·exact h2.cl c hc
theorem qZ {l r:Nd} {b:By} (h1:l.Fit) (h2:r.Fit) (h:l.leaf=r.leaf):(bw l b r).Fit:=by
 refine ⟨fun hl=>?_,fun hl=>?_⟩
 ·have hl:l.leaf=true:=hl;have hr:r.leaf=true:=h ▸ hl;obtain ⟨e1,e2⟩:=h1.c hl;obtain ⟨e3,e4⟩:=h2.c hr;refine ⟨?_,by simp [bw,e2,e4]⟩;simp [bw,hl,e1,e3]
 ·have hl:l.leaf=false:=hl;have hr:r.leaf=false:=h ▸ hl;obtain ⟨e1,e2⟩:=h1.d hl;obtain ⟨e3,e4⟩:=h2.d hr;refine ⟨?_,by simp [bw,e2,e4]⟩;simp [bw,hl,e1,e3];omega
theorem nj {α:Type} (b:Int) (k:Unit→Pro α) (s:Sf):(Pro.free b k).run s=if co s b=0 then (k ()).run (dh s b) else (dh s b,.err (co s b)):=rfl
theorem fq (n l r:Nd) (i B gs gm gn:Nat) (s:Sf) (vl vr:Value) (w:World) (hS:ShIs w gs gm s) (hN:PN B gn n w) (hL:NdF (gn+1) w vl l) (hR:NdF (gn+1) w vr r) (h1:gs<B) (h2:gm<B) (h3:B≤gn)
  (hf1:l.Fit) (hf2:r.Fit) (hlr:l.leaf=r.leaf) (hs1:l.Sm 400) (hs2:r.Sm 400) (hn:n.Sm 1000) (hi:i<n.keys.length) (hi2:i+1<n.kids.length):
  Calls Tryz.prog 203 #[bV gs,.pointer (some ⟨gn,0,none⟩),.int .i64 i,vl,vr] w fun e w'=>ub B gn w' e ((ct n i l r).run s).2∧ShIs w' gs gm ((ct n i l r).run s).1∧Ch (dS gs gm gn) w w':=by
 obtain ⟨kb,hkb⟩:∃ x,n.keys[i]=x:=⟨_,rfl⟩;obtain ⟨ka,hka⟩:∃ x,n.kids[i]=x:=⟨_,rfl⟩;obtain ⟨kc,hkc⟩:∃ x,n.kids[i+1]=x:=⟨_,rfl⟩;have hkl:kb.length≤64:=by rw [← hkb];exact hn.kl _ (List.getElem_mem hi)
 have HJA:=hid (fun (w:World) (h1:NdF (gn+1) w vl l) (h2:NdF (gn+1) w vr r)=>og l r kb (gn+1) vl vr w h1 h2 (hs1.bd (by decide)) (hs2.bd (by decide)));have HJS:=hid ((oY hs1 hs2 hkl).mono (show 400+400+1≤1000 by decide));have HJF:=hid (qZ (b:=kb) hf1 hf2 hlr);obtain ⟨J,hJ⟩:∃ x,bw l kb r=x:=⟨_,rfl⟩;obtain ⟨⟨pl,pk,pr⟩,hpv⟩:∃ x,cw J=x:=⟨_,rfl⟩;have HRT:=hid (qT n l r i s J pl pr pk kb ka kc hJ (by rw [List.getD_eq_getElem?_getD,List.getElem?_eq_getElem hi,hkb];rfl) hpv (by rw [List.getD_eq_getElem?_getD,List.getElem?_eq_getElem (by omega),hka];rfl) (by rw [List.getD_eq_getElem?_getD,List.getElem?_eq_getElem hi2,hkc];rfl));rw [hJ] at HJA HJS HJF;clear hJ;have HPS:=hid (mO HJS.out);rw [hpv] at HPS;have HKB:=hid hkb;have HKA:=hid hka;have HKC:=hid hkc;clear hkb hka hkc;have HPV:=hid hpv;clear hpv;have HLF:=hid hL;have HRF:=hid hR;obtain ⟨vk,vc,vd,rfl,j1,j2,j3⟩:=hL;obtain ⟨D1,d1,rfl,-,-⟩:=j1.cap;obtain ⟨D2,d2,rfl,-,-⟩:=j2.cap;obtain ⟨D3,d3,rfl,-,-⟩:=j3.cap;clear j1 j2 j3;obtain ⟨vk,vc,vd,rfl,j1,j2,j3⟩:=hR;obtain ⟨R1,f1,rfl,-,-⟩:=j1.cap;obtain ⟨R2,f2,rfl,-,-⟩:=j2.cap;obtain ⟨R3,f3,rfl,-,-⟩:=j3.cap;clear j1 j2 j3 hf1 hf2 hlr hs1 hs2;have hgn:gn<w.heap.size:=by obtain ⟨_,_,_,_,_,_,h,_⟩:=hN;exact aj h
 have HB2:=hid (show Below w.heap.size w ((w.alloc (ap l (.slice D1 l.keys.length d1) (.slice D2 l.cells.length d2) (.slice D3 l.kids.length d3))).alloc (ap r (.slice R1 r.keys.length f1) (.slice R2 r.cells.length f2) (.slice R3 r.kids.length f3))) from ((Below.refl _ w).alloc (Nat.le_refl _) _).alloc (by simp) _);have HX2:=hid (show ((w.alloc (ap l (.slice D1 l.keys.length d1) (.slice D2 l.cells.length d2) (.slice D3 l.kids.length d3))).alloc (ap r (.slice R1 r.keys.length f1) (.slice R2 r.cells.length f2) (.slice R3 r.kids.length f3))).heap[w.heap.size]?=some (ap l (.slice D1 l.keys.length d1) (.slice D2 l.cells.length d2) (.slice D3 l.kids.length d3)) from ai (ag rfl) _);have HY2:=hid (show ((w.alloc (ap l (.slice D1 l.keys.length d1) (.slice D2 l.cells.length d2) (.slice D3 l.kids.length d3))).alloc (ap r (.slice R1 r.keys.length f1) (.slice R2 r.cells.length f2) (.slice R3 r.kids.length f3))).heap[w.heap.size+1]?=some (ap r (.slice R1 r.keys.length f1) (.slice R2 r.cells.length f2) (.slice R3 r.kids.length f3)) from ag (by simp));have HS0:=hid hS;have HN0:=hid hN;have hsk:=hn.k;have hsd:=hn.d;clear hS hN;unfold bV;go_enter Tryz.func203,Tryz.ntmps203;go_upto_region 1 with fail
 generalize hw1:(w.alloc (.cells #[.bool l.leaf,.slice D1 l.keys.length d1,.slice D2 l.cells.length d2,.slice D3 l.kids.length d3] 110)).alloc (.cells #[.bool r.leaf,.slice R1 r.keys.length f1,.slice R2 r.cells.length f2,.slice R3 r.kids.length f3] 110)=w2 at *;have hw2:(w.alloc (ap l (.slice D1 l.keys.length d1) (.slice D2 l.cells.length d2) (.slice D3 l.kids.length d3))).alloc (ap r (.slice R1 r.keys.length f1) (.slice R2 r.cells.length f2) (.slice R3 r.kids.length f3))=w2:=hw1;rw [hw2] at HB2 HX2 HY2;clear hw1 hw2;have HN2:=hid (HN0.out.keep HB2.out);have HS2:=hid (HS0.out.ch (S:=fun _=>False) (Ch.of_below HB2.out) id id);have hn2:w.heap.size+1<w2.heap.size:=aj HY2.out;go_cut [11] from 18 to 27 (fun p wc=>∃ (gj:Nat) (vj:Value),p=.pointer (some ⟨gj,0,none⟩)∧w.heap.size+1<gj∧(∃ J1 x1 J2 x2 J3 x3,vj=.agg #[.bool J.leaf,.slice J1 J.keys.length x1,.slice J2 J.cells.length x2,.slice J3 J.kids.length x3]∧wc.heap[gj]?=some (ap J (.slice J1 J.keys.length x1) (.slice J2 J.cells.length x2) (.slice J3 J.kids.length x3)))∧NdF (gn+1) wc vj J∧Below w.heap.size w wc)
 case first=>
  obtain ⟨A1,c1,A2,c2,A3,c3,h0,k1,k2,k3,-⟩:=HN2.out;obtain ⟨n0,n1,n2,n3,n4⟩:=aa h0;obtain ⟨p0,p1,p2,p3,p4⟩:=aa HX2.out;obtain ⟨q0,q1,q2,q3,q4⟩:=aa HY2.out;have hne:n.keys≠[]:=by intro e;rw [e] at hi;simp at hi
  obtain ⟨b,off,c',he,-,-,-,hbl⟩:=k1.form hne;injection he with he1 he2 he3
  subst he1 he3;have ek:=k1.sl.keyAt hi;rw [HKB.out] at ek;have hi0:(0:Int)≤(i:Int):=by omega
  have hi1:(i:Int)<(n.keys.length:Int):=by omega
  clear h0 k1 k2 k3 he2;have HBA:=hid (show Below w.heap.size w (w2.alloc (ap Nd.zero (.slice none 0 0) (.slice none 0 0) (.slice none 0 0))).drew from (HB2.out.alloc HB2.out.size _).drew);have HZA:=hid (show (w2.alloc (ap Nd.zero (.slice none 0 0) (.slice none 0 0) (.slice none 0 0))).drew.heap[w2.heap.size]?=some (ap Nd.zero (.slice none 0 0) (.slice none 0 0) (.slice none 0 0)) from ag rfl);have hsA:(w2.alloc (ap Nd.zero (.slice none 0 0) (.slice none 0 0) (.slice none 0 0))).drew.heap.size=w2.heap.size+1:=(by simp);have hb2:b<w2.heap.size:=by omega
  have hgn2:gn<w2.heap.size:=by omega
  have HKW:=hid (show ∀ (wn:World),Below w2.heap.size w2 wn→wn.cell? ⟨w.heap.size,0,none⟩=some (.bool l.leaf)∧wn.cell? ⟨w.heap.size,1,none⟩=some (.slice D1 l.keys.length d1)∧wn.cell? ⟨w.heap.size,2,none⟩=some (.slice D2 l.cells.length d2)∧wn.cell? ⟨w.heap.size,3,none⟩=some (.slice D3 l.kids.length d3)∧wn.cell? ⟨w.heap.size+1,0,none⟩=some (.bool r.leaf)∧wn.cell? ⟨w.heap.size+1,1,none⟩=some (.slice R1 r.keys.length f1)∧wn.cell? ⟨w.heap.size+1,2,none⟩=some (.slice R2 r.cells.length f2)∧wn.cell? ⟨w.heap.size+1,3,none⟩=some (.slice R3 r.kids.length f3)∧wn.cell? ⟨gn,1,none⟩=some (.slice (some ⟨b,off,none⟩) n.keys.length c1)∧wn.cell? ⟨b,off+i,none⟩=some (.string (al kb)) from fun wn h=>by
   have c:=fun (g o:Nat) (v:Value) (hg:g<w2.heap.size) (e:w2.cell? ⟨g,o,none⟩=some v)=>(h.cell (p:=⟨g,o,none⟩) hg).trans e
   exact ⟨c _ _ _ (by omega) p0,c _ _ _ (by omega) p1,c _ _ _ (by omega) p2,c _ _ _ (by omega) p3,c _ _ _ (by omega) q0,c _ _ _ (by omega) q1,c _ _ _ (by omega) q2,c _ _ _ (by omega) q3,c _ _ _ hgn2 n1,c _ _ _ hb2 ek⟩)
  go_region_held3 (fun wn=>wn.cell? ⟨w.heap.size,0,none⟩=some (.bool l.leaf)∧wn.cell? ⟨w.heap.size,1,none⟩=some (.slice D1 l.keys.length d1)∧wn.cell? ⟨w.heap.size,2,none⟩=some (.slice D2 l.cells.length d2)∧wn.cell? ⟨w.heap.size,3,none⟩=some (.slice D3 l.kids.length d3)∧wn.cell? ⟨w.heap.size+1,0,none⟩=some (.bool r.leaf)∧wn.cell? ⟨w.heap.size+1,1,none⟩=some (.slice R1 r.keys.length f1)∧wn.cell? ⟨w.heap.size+1,2,none⟩=some (.slice R2 r.cells.length f2)∧wn.cell? ⟨w.heap.size+1,3,none⟩=some (.slice R3 r.kids.length f3)∧wn.cell? ⟨gn,1,none⟩=some (.slice (some ⟨b,off,none⟩) n.keys.length c1)∧wn.cell? ⟨b,off+i,none⟩=some (.string (al kb)))
   ((first | go_keep | exact HK.out))
   ((go_at_call 219
     first
     | (refine (HJA.out w2.drew (HLF.out.keep HB2.out.drew) (HRF.out.keep HB2.out.drew)).mono ?_
        rintro e w3 ⟨vj,rfl,⟨jk,jc,jd,rfl,i1,i2,i3⟩,hb⟩;have hs3:w2.heap.size≤w3.heap.size:=hb.size;have HJB:=hid (HB2.out.drew.trans (hb.mono HB2.out.drew.size));have HKS:=hid (fun (hb:Below w2.drew.heap.size w2.drew w3)=>HKW.out w3 (show Below w2.heap.size w2 w3 from ((Below.refl _ w2).drew).trans hb));have HK:=hid (HKS.out hb);obtain ⟨J1,x1,rfl,-,-⟩:=i1.cap;obtain ⟨J2,x2,rfl,-,-⟩:=i2.cap;obtain ⟨J3,x3,rfl,-,-⟩:=i3.cap;have HJN:=hid (show NdF w2.heap.size w3 (.agg #[.bool J.leaf,.slice J1 J.keys.length x1,.slice J2 J.cells.length x2,.slice J3 J.kids.length x3]) J from ⟨_,_,_,rfl,i1,i2,i3⟩);obtain ⟨s0,s1,s2,s3,s4,s5,s6,s7,s8,s9⟩:=HK.out;have u1:¬ (w.heap.size=w3.heap.size):=by omega
        have u2:¬ (w3.heap.size=w.heap.size):=by omega
        have u3:¬ (w.heap.size+1=w3.heap.size):=by omega
        have u4:¬ (w3.heap.size=w.heap.size+1):=by omega
        have u5:¬ (gn=w3.heap.size):=by omega
        have u6:¬ (w3.heap.size=gn):=by omega
        have u7:¬ (b=w3.heap.size):=by omega
        have u8:¬ (w3.heap.size=b):=by omega
        have o1:w.heap.size<w3.heap.size:=by omega
        have o2:w.heap.size+1<w3.heap.size:=by omega
        have o3:gn<w3.heap.size:=by omega
        have o4:b<w3.heap.size:=by omega
        clear i1 i2 i3 hb)
     | (refine (HJA.out (w2.alloc (ap Nd.zero (.slice none 0 0) (.slice none 0 0) (.slice none 0 0))).drew (HLF.out.keep HBA.out) (HRF.out.keep HBA.out)).mono ?_
        rintro e w3 ⟨vj,rfl,⟨jk,jc,jd,rfl,i1,i2,i3⟩,hb⟩;have hs3:w2.heap.size+1≤w3.heap.size:=hsA ▸ hb.size;have HJB:=hid (HBA.out.trans (hb.mono HBA.out.size));have HKS:=hid (fun (hb:Below (w2.alloc (ap Nd.zero (.slice none 0 0) (.slice none 0 0) (.slice none 0 0))).drew.heap.size (w2.alloc (ap Nd.zero (.slice none 0 0) (.slice none 0 0) (.slice none 0 0))).drew w3)=>HKW.out w3 (show Below w2.heap.size w2 w3 from (((Below.refl _ w2).alloc (Nat.le_refl _) _).drew).trans (hb.mono (by rw [hsA];omega))));have HK:=hid (HKS.out hb);obtain ⟨J1,x1,rfl,-,-⟩:=i1.cap;obtain ⟨J2,x2,rfl,-,-⟩:=i2.cap;obtain ⟨J3,x3,rfl,-,-⟩:=i3.cap;have HJN:=hid (show NdF (w2.heap.size+1) w3 (.agg #[.bool J.leaf,.slice J1 J.keys.length x1,.slice J2 J.cells.length x2,.slice J3 J.kids.length x3]) J from ⟨_,_,_,rfl,hsA ▸ i1,hsA ▸ i2,hsA ▸ i3⟩);have HZN:=hid (ae HZA.out hb);obtain ⟨m0,m1,m2,m3,m4⟩:=aa HZN.out;simp only [Nd.zero] at m0;have fm:=ab HZN.out;obtain ⟨s0,s1,s2,s3,s4,s5,s6,s7,s8,s9⟩:=HK.out;have u1:¬ (w.heap.size=w2.heap.size):=by omega
        have u2:¬ (w2.heap.size=w.heap.size):=by omega
        have u3:¬ (w.heap.size+1=w2.heap.size):=by omega
        have u4:¬ (w2.heap.size=w.heap.size+1):=by omega
        have u5:¬ (gn=w2.heap.size):=by omega
        have u6:¬ (w2.heap.size=gn):=by omega
        have u7:¬ (b=w2.heap.size):=by omega
        have u8:¬ (w2.heap.size=b):=by omega
        have o1:w.heap.size<w3.heap.size:=by omega
        have o2:w.heap.size+1<w3.heap.size:=by omega
        have o3:gn<w3.heap.size:=by omega
        have o4:b<w3.heap.size:=by omega
        clear i1 i2 i3 hb)))
  all_goals
   first
   | (go_wp2_with fail
      go_meet
      case rel=>exact ⟨w3.heap.size,_,rfl,by omega,⟨J1,x1,J2,x2,J3,x3,rfl,ag rfl⟩,(HJN.out.keep ((Below.refl _ w3).alloc (Nat.le_refl _) _)).mono (by omega),HJB.out.alloc HJB.out.size _⟩)
   | (go_wp2_with fail
      go_meet
      case rel=>
       have hc:=bD w3 w2.heap.size (.bool J.leaf) (.slice J1 J.keys.length x1) (.slice J2 J.cells.length x2) (.slice J3 J.kids.length x3);exact ⟨w2.heap.size,_,rfl,by omega,⟨J1,x1,J2,x2,J3,x3,rfl,eD HZN.out J.leaf _ _ _⟩,(HJN.out.ch hc (fun k hk e=>by omega)).mono (by omega),HJB.out.trans (hc.below HJB.out.size (by omega))⟩)
 case rest=>
 obtain ⟨gj,vj,rfl,hgj,⟨J1,x1,J2,x2,J3,x3,rfl,hjb⟩,hjn,hb⟩:=hcut;have HJ3:=hid hjb;have HJN:=hid hjn;have HB3:=hid hb;have HN3:=hid (HN0.out.keep hb);have HS3:=hid (HS0.out.ch (S:=fun _=>False) (Ch.of_below hb) id id);clear hjb hjn hb HN2 HS2 HX2 HY2 HB2;obtain ⟨p0,p1,p2,p3,p4⟩:=aa HJ3.out;go_wp2_with fail;refine (et J _ wc HJN.out.val (HJS.out.bd (by decide))).mono ?_;rintro e w4 ⟨rfl,hb⟩;have HJ4:=hid (ae HJ3.out hb);have HJN4:=hid (HJN.out.keep hb);have HB4:=hid (HB3.out.trans (hb.mono HB3.out.size));have HN4:=hid (HN3.out.keep hb);have HS4:=hid (HS3.out.ch (S:=fun _=>False) (Ch.of_below hb) id id);clear hb p0 p1 p2 p3 p4 HJ3 HJN HB3 HN3 HS3;have hi0:(0:Int)≤(i:Int):=by omega
 have hia:(i:Int)<(n.kids.length:Int):=by omega
 have hib:(i:Int)+1<(n.kids.length:Int):=by omega
 have hic:(0:Int)≤(i:Int)+1:=by omega
 have hw1:IntKind.i64.wrap ((i:Int)+1)=(i:Int)+1:=by rw [IntKind.wrap_i64];omega
 have htn:((i:Int)+1).toNat=i+1:=by omega
 cases hft:bX J
 ·have HR:=hid (HRT.out.trans (if_neg (by rw [hft];simp)));clear hft;obtain ⟨p0,p1,p2,p3,p4⟩:=aa HJ4.out;have HPA:=hid (lp J (gn+1) _ w4 HJN4.out HJF.out HJS.out);rw [HPV.out] at HPA;go_wp2_with fail;refine HPA.out.mono ?_;rintro e w2 ⟨vl,vr,rfl,hl,hr,hb⟩;obtain ⟨lk,lc,ld,rfl,l1,l2,l3⟩:=hl;obtain ⟨L1,e1,rfl,-,-⟩:=l1.cap;obtain ⟨L2,e2,rfl,-,-⟩:=l2.cap;obtain ⟨L3,e3,rfl,-,-⟩:=l3.cap;obtain ⟨rk,rc,rd,rfl,r1,r2,r3⟩:=hr;obtain ⟨S1,f4,rfl,-,-⟩:=r1.cap;obtain ⟨S2,f5,rfl,-,-⟩:=r2.cap;obtain ⟨S3,f6,rfl,-,-⟩:=r3.cap;have HB3:=hid (show Below w4.heap.size w4 ((w2.alloc (ap pl (.slice L1 pl.keys.length e1) (.slice L2 pl.cells.length e2) (.slice L3 pl.kids.length e3))).alloc (ap pr (.slice S1 pr.keys.length f4) (.slice S2 pr.cells.length f5) (.slice S3 pr.kids.length f6))) from (hb.alloc hb.size _).alloc (by have:=hb.size;simp;omega) _);have HL3:=hid (show ((w2.alloc (ap pl (.slice L1 pl.keys.length e1) (.slice L2 pl.cells.length e2) (.slice L3 pl.kids.length e3))).alloc (ap pr (.slice S1 pr.keys.length f4) (.slice S2 pr.cells.length f5) (.slice S3 pr.kids.length f6))).heap[w2.heap.size]?=some (ap pl (.slice L1 pl.keys.length e1) (.slice L2 pl.cells.length e2) (.slice L3 pl.kids.length e3)) from ai (ag rfl) _);have HR3:=hid (show ((w2.alloc (ap pl (.slice L1 pl.keys.length e1) (.slice L2 pl.cells.length e2) (.slice L3 pl.kids.length e3))).alloc (ap pr (.slice S1 pr.keys.length f4) (.slice S2 pr.cells.length f5) (.slice S3 pr.kids.length f6))).heap[w2.heap.size+1]?=some (ap pr (.slice S1 pr.keys.length f4) (.slice S2 pr.cells.length f5) (.slice S3 pr.kids.length f6)) from ag (by simp));have HLF3:=hid ((show NdF (gn+1) w4 (.agg #[.bool pl.leaf,.slice L1 pl.keys.length e1,.slice L2 pl.cells.length e2,.slice L3 pl.kids.length e3]) pl from ⟨_,_,_,rfl,l1,l2,l3⟩).keep HB3.out);have HRF3:=hid ((show NdF (gn+1) w4 (.agg #[.bool pr.leaf,.slice S1 pr.keys.length f4,.slice S2 pr.cells.length f5,.slice S3 pr.kids.length f6]) pr from ⟨_,_,_,rfl,r1,r2,r3⟩).keep HB3.out);have hsz2:=hb.size;have hsz4:=HB4.out.size;clear hb p0 p1 p2 p3 p4 l1 l2 l3 r1 r2 r3 HPA;go_upto_region 4 with fail
  generalize hw2:(w2.alloc (.cells #[.bool pl.leaf,.slice L1 pl.keys.length e1,.slice L2 pl.cells.length e2,.slice L3 pl.kids.length e3] 110)).alloc (.cells #[.bool pr.leaf,.slice S1 pr.keys.length f4,.slice S2 pr.cells.length f5,.slice S3 pr.kids.length f6] 110)=w3 at *;have hw3:(w2.alloc (ap pl (.slice L1 pl.keys.length e1) (.slice L2 pl.cells.length e2) (.slice L3 pl.kids.length e3))).alloc (ap pr (.slice S1 pr.keys.length f4) (.slice S2 pr.cells.length f5) (.slice S3 pr.kids.length f6))=w3:=hw2;rw [hw3] at HB3 HL3 HR3 HLF3 HRF3;clear hw2 hw3;have HBW:=hid (HB4.out.trans (HB3.out.mono HB4.out.size));have HS3:=hid (HS4.out.ch (S:=fun _=>False) (Ch.of_below HB3.out) id id);have HN3:=hid (HN4.out.keep HB3.out);have hsz3:=HB3.out.size;obtain ⟨p0,p1,p2,p3,p4⟩:=aa HL3.out;obtain ⟨A1,c1,A2,c2,A3,c3,h0,k1,k2,k3,m1,m2,m3⟩:=HN3.out;have H0:=hid h0;have K1:=hid k1;have K2:=hid k2;have K3:=hid k3;have M2:=hid m2;have M3:=hid m3;obtain ⟨n0,n1,n2,n3,n4⟩:=aa h0;obtain ⟨b,off,c',he,hbl,hcells⟩:=k3.sl.at1 (show i<n.kids.length from (by omega));injection he with he1 he2 he3
  subst he1 he3;have e0:w3.cell? ⟨b,off+(i),none⟩=some (.int .i64 (n.kids[i]'(by omega))):=by simpa [iC] using hcells 0 _ rfl
  rw [HKA.out] at e0;clear h0 k1 k2 k3 m1 m2 m3 hcells he2;have hit:i<n.kids.length:=by omega
  go_upto_region 4 with fail
  go_cut [15] from 37 to 48 (fun ev wc=>ev=dj ((aC ka pl).run s).2∧ShIs wc gs gm ((aC ka pl).run s).1∧Ch (fun k=>k=gs∨k=gm) w3 wc)
  case first=>
   go_region_law (first
    | (go_simp
       go_at_call 66;refine (bp ka pl _ gs gm s w3.drew (HS3.out.ch (S:=fun _=>False) (Ch.refl _ w3).drew id id) (HLF3.out.ch (S:=fun _=>False) (Ch.refl _ w3).drew (fun _ _=>id)).val (HPS.out.1.bd (by decide))).mono ?_;rintro e w5 ⟨rfl,hs,hc⟩;have HS5:=hid hs;have HH5:=hid ((Ch.refl _ w3).drew.trans hc);clear hs hc))
   all_goals
    go_wp2_with fail;go_meet
    case rel=>exact ⟨rfl,HS5.out,HH5.out⟩
  case rest=>
  obtain ⟨rfl,hs5,hh5⟩:=hcut;have HS5:=hid hs5;have HN5:=hid (HN3.out.ch hh5 (fun k hk e=>by omega) (by omega));have HC5:=hid (show Ch (dS gs gm gn) w wc from (Ch.of_below HBW.out).trans (eB hh5));have HR5:=hid (hh5.keep HR3.out (by omega));have HRF5:=hid (HRF3.out.ch hh5 (fun k hk e=>by omega));have hsz5:=hh5.size;clear hs5 hh5 n0 n1 n2 n3 n4 p0 p1 p2 p3 p4 e0 H0 K1 K2 K3 M2 M3;have hnz:=Pro.NZ.run (aC ka pl) s;obtain ⟨⟨s5,a⟩,hx⟩:∃ x,(aC ka pl).run s=x:=⟨_,rfl⟩;rw [hx] at HS5 hnz ⊢;rcases a with u | x
  case err=>
   have hx0:¬ x=0:=hnz x (ci _ _) rfl;have hx1:(x == 0)=false:=by simpa using hx0
   have HV:=hid (HR.out.trans (ak hx));simp only [dj];go_wp2_with fail;go_ret;rw [HV.out];exact ⟨⟨rfl,n,HN5.out⟩,HS5.out,HC5.out⟩
  have HR2:=hid (HR.out.trans (af hx));simp only [dj];clear hnz hx;obtain ⟨A1,c1,A2,c2,A3,c3,h0,k1,k2,k3,m1,m2,m3⟩:=HN5.out;have H0:=hid h0;have K1:=hid k1;have K2:=hid k2;have K3:=hid k3;have M2:=hid m2;have M3:=hid m3;obtain ⟨n0,n1,n2,n3,n4⟩:=aa h0;obtain ⟨b,off,c',he,hbl,hcells⟩:=k3.sl.at1 (show i+1<n.kids.length from hi2);injection he with he1 he2 he3
  subst he1 he3;have e0:wc.cell? ⟨b,off+(i+1),none⟩=some (.int .i64 (n.kids[i+1]'hi2)):=by simpa [iC] using hcells 0 _ rfl
  rw [HKC.out] at e0;clear h0 k1 k2 k3 m1 m2 m3 hcells he2;have fn:=ab H0.out;go_wp2_with fail;refine (gI n.keys _ wc K1.out.sl (by omega)).mono ?_;rintro e w7 ⟨v7,rfl,ho,hb⟩;obtain ⟨g7,d7,rfl,hg7,hg7'⟩:=ho.form2 (by intro e;rw [e] at hi;simp at hi);have HO7:=hid ho;have HB7:=hid hb;have hsz7:=hb.size;clear ho hb n0 n1 n2 n3 n4 fn e0;have H7:=hid (ae H0.out HB7.out);obtain ⟨n0,n1,n2,n3,n4⟩:=aa H7.out;have fn:=ab H7.out;have HC8:=hid ((Ch.refl (fun k=>k=gn) w7).setCell (p:=⟨gn,1,none⟩) rfl (.slice (some ⟨g7,0,none⟩) n.keys.length d7));have H8:=hid (show (w7.setCell ⟨gn,1,none⟩ (.slice (some ⟨g7,0,none⟩) n.keys.length d7)).heap[gn]?=some (ap n (.slice (some ⟨g7,0,none⟩) n.keys.length d7) (.slice A2 n.cells.length c2) (.slice (some ⟨b,off,none⟩) n.kids.length c3)) from ah H7.out 1 _);go_upto_region 8 with fail
  generalize w7.setCell ⟨gn,1,none⟩ (.slice (some ⟨g7,0,none⟩) n.keys.length d7)=w8 at *;have hsz8:=HC8.out.size;have hgw:=HN5.out.out;have HO8:=hid (HO7.out.ch HC8.out (fun k hk e=>by have hk:some g7=some k:=hk;injection hk with hk;omega));clear n0 n1 n2 n3 n4 fn H7 HO7;obtain ⟨n0,n1,n2,n3,n4⟩:=aa H8.out;have HOS:=hid (HO8.out.set aP hi pk);rw [Nat.mul_one] at HOS;obtain ⟨cur,hg8,hcz⟩:∃ cur:Array Value,w8.heap[g7]?=some (.cells cur 9 (0,0))∧n.keys.length≤cur.size:=by
   rcases HO8.out.2 with ⟨hv,_⟩ | ⟨g',cap,cur,hv,_,hg,hnc,hm,hc,ht⟩
   ·cases hv
   ·injection hv with e1 e2 e3
    injection e1 with e1
    injection e1 with e1
    subst e1;exact ⟨cur,hg,by rw [hc];omega⟩
  have ek:w8.cell? ⟨g7,i,none⟩=some (cur[i]'(by omega)):=by rw [ac hg8,Array.getElem?_eq_getElem (by omega)]
  have fk:=ab hg8 i;have hi1:(i:Int)<(n.keys.length:Int):=by omega
  have HC9:=hid ((Ch.refl (fun k=>k=g7) w8).setCell (p:=⟨g7,i,none⟩) rfl (.string (al pk)));have HOS2:=hid (show Own sC 1 9 wc.heap.size (w8.setCell ⟨g7,i,none⟩ (.string (al pk))) (.slice (some ⟨g7,0,none⟩) n.keys.length d7) (n.keys.set i pk) from HOS.out);clear hg8 HOS;go_upto_region 9 with fail
  generalize w8.setCell ⟨g7,i,none⟩ (.string (al pk))=w9 at *;have hsz9:=HC9.out.size;have HL9:=hid (((Ch.of_below (S:=fun k=>k=gn∨k=g7) HB7.out).trans (HC8.out.mono (fun _ _ e=>.inl e))).trans (HC9.out.mono (fun _ _ e=>.inr e)));have HLN:=hid (show Ch (fun k=>k=gn) wc w9 from ((Ch.of_below (S:=fun k=>k=gn) HB7.out).trans HC8.out).then HC9.out (fun k e=>.inr (by omega)));have H9:=hid (HC9.out.keep H8.out (by omega));clear n0 n1 n2 n3 n4 ek fk H8 hcz;have HS9:=hid (HS5.out.ch HLN.out (by omega) (by omega));have HP9:=hid (show PN B gn { n with keys:=n.keys.set i pk } w9 from PN.mk' H9.out (HOS2.out.slf aP |>.mono (by omega)) (K2.out.ch' HLN.out M2.out) (K3.out.ch' HLN.out M3.out) (fun k hk e=>by have hk:some g7=some k:=hk;injection hk with hk;omega) M2.out M3.out);have HCX:=hid (HC5.out.trans (HLN.out.mono (S':=dS gs gm gn) (fun _ _ e=>.inr (.inr e))));have HR9:=hid (HLN.out.keep HR5.out (by omega));have HRF9:=hid (HRF5.out.ch HLN.out (fun k hk e=>by omega));have K39:=hid (K3.out.ch' HLN.out M3.out);have fn:=ab H9.out;obtain ⟨n0,n1,n2,n3,n4⟩:=aa H9.out;obtain ⟨q0,q1,q2,q3,q4⟩:=aa HR9.out;obtain ⟨b',off',c',he,hbl',hcells⟩:=K39.out.sl.at1 hi2;injection he with he1 he2 he3
  injection he1 with he1
  injection he1 with he1 he4
  subst he1 he3 he4;have e0:w9.cell? ⟨b,off+(i+1),none⟩=some (.int .i64 (n.kids[i+1]'hi2)):=by simpa [iC] using hcells 0 _ rfl
  rw [HKC.out] at e0;clear hcells he2;have HSD:=hid (HS9.out.ch (S:=fun _=>False) (Ch.refl _ w9).drew id id);have HRD:=hid ((HRF9.out.ch (S:=fun _=>False) (Ch.refl _ w9).drew (fun _ _=>id)).val);go_region_law (first
   | (go_simp
      go_at_call 66;refine (bp kc pr _ gs gm s5 w9.drew HSD.out HRD.out (HPS.out.2.bd (by decide))).mono ?_;rintro e wf ⟨rfl,hs,hc⟩;have HSf:=hid hs;have HHf:=hid ((Ch.refl _ w9).drew.trans hc);clear hs hc))
  all_goals
   have HPf:=hid (HP9.out.ch HHf.out (fun k hk e=>by omega) (by omega));have HCf:=hid (HCX.out.trans (eB HHf.out));clear n0 n1 n2 n3 n4 q0 q1 q2 q3 q4 e0;have hnz:=Pro.NZ.run (aC kc pr) s5;obtain ⟨⟨s6,a⟩,hx⟩:∃ x,(aC kc pr).run s5=x:=⟨_,rfl⟩;rw [hx] at HSf hnz ⊢;rcases a with u | x
   case ok=> have HV:=hid (HR2.out.trans (af hx));simp only [dj];go_wp2_with fail;go_ret;rw [HV.out];exact ⟨⟨rfl,HPf.out⟩,HSf.out,HCf.out⟩
   case err=> have HV:=hid (HR2.out.trans (ak hx));simp only [dj];go_wp2_with fail;go_ret;rw [HV.out];exact ⟨⟨rfl,_,HPf.out⟩,HSf.out,HCf.out⟩
 ·have HR:=hid (HRT.out.trans (if_pos hft));clear hft;obtain ⟨p0,p1,p2,p3,p4⟩:=aa HJ4.out;obtain ⟨A1,c1,A2,c2,A3,c3,h0,k1,k2,k3,m1,m2,m3⟩:=HN4.out;have H0:=hid h0;have K1:=hid k1;have K2:=hid k2;have K3:=hid k3;have M2:=hid m2;have M3:=hid m3;obtain ⟨n0,n1,n2,n3,n4⟩:=aa h0;obtain ⟨b,off,c',he,hbl,hcells⟩:=k3.sl.at1 (show i<n.kids.length from (by omega));injection he with he1 he2 he3
  subst he1 he3;have e0:w4.cell? ⟨b,off+(i),none⟩=some (.int .i64 (n.kids[i]'(by omega))):=by simpa [iC] using hcells 0 _ rfl
  rw [HKA.out] at e0;clear h0 k1 k2 k3 m1 m2 m3 hcells he2;have hit:i<n.kids.length:=by omega
  have hi1:(i:Int)<(n.keys.length:Int):=by omega
  go_upto_region 10 with fail
  go_cut [16] from 76 to 87 (fun ev wc=>ev=dj ((aC ka J).run s).2∧ShIs wc gs gm ((aC ka J).run s).1∧Ch (fun k=>k=gs∨k=gm) w4 wc)
  case first=>
   go_region_law (first
    | (go_simp
       go_at_call 66;refine (bp ka J _ gs gm s w4.drew (HS4.out.ch (S:=fun _=>False) (Ch.refl _ w4).drew id id) (HJN4.out.ch (S:=fun _=>False) (Ch.refl _ w4).drew (fun _ _=>id)).val (HJS.out.bd (by decide))).mono ?_;rintro e w5 ⟨rfl,hs,hc⟩;have HS5:=hid hs;have HH5:=hid ((Ch.refl _ w4).drew.trans hc);clear hs hc))
   all_goals
    go_wp2_with fail;go_meet
    case rel=>exact ⟨rfl,HS5.out,HH5.out⟩
  case rest=>
  obtain ⟨rfl,hs5,hh5⟩:=hcut;have HS5:=hid hs5;have HN5:=hid (HN4.out.ch hh5 (fun k hk e=>by omega) (by omega));have HC5:=hid (show Ch (dS gs gm gn) w wc from (Ch.of_below HB4.out).trans (eB hh5));clear hs5 hh5 n0 n1 n2 n3 n4 p0 p1 p2 p3 p4 e0 H0 K1 K2 K3 M2 M3;have hnz:=Pro.NZ.run (aC ka J) s;obtain ⟨⟨s5,a⟩,hx⟩:∃ x,(aC ka J).run s=x:=⟨_,rfl⟩;rw [hx] at HS5 hnz ⊢;rcases a with u | x
  case err=>
   have hx0:¬ x=0:=hnz x (ci _ _) rfl;have hx1:(x == 0)=false:=by simpa using hx0
   have HV:=hid (HR.out.trans (ak hx));simp only [dj];go_wp2_with fail;go_ret;rw [HV.out];exact ⟨⟨rfl,n,HN5.out⟩,HS5.out,HC5.out⟩
  have HR2:=hid (HR.out.trans (af hx));simp only [dj];clear hnz hx;obtain ⟨A1,c1,A2,c2,A3,c3,h0,k1,k2,k3,m1,m2,m3⟩:=HN5.out;have H0:=hid h0;have K1:=hid k1;have K2:=hid k2;have K3:=hid k3;have M2:=hid m2;have M3:=hid m3;obtain ⟨n0,n1,n2,n3,n4⟩:=aa h0;obtain ⟨b,off,c',he,hbl,hcells⟩:=k3.sl.at1 (show i+1<n.kids.length from hi2);injection he with he1 he2 he3
  subst he1 he3;have e0:wc.cell? ⟨b,off+(i+1),none⟩=some (.int .i64 (n.kids[i+1]'hi2)):=by simpa [iC] using hcells 0 _ rfl
  rw [HKC.out] at e0;clear h0 k1 k2 k3 m1 m2 m3 hcells he2;have fn:=ab H0.out;have hgw:=HN5.out.out;go_wp2_with fail;refine (gI n.keys _ wc K1.out.sl (by omega)).mono ?_;rintro e w7 ⟨v7,rfl,ho,hb⟩;obtain ⟨g7,d7,rfl,hg7,hg7'⟩:=ho.form2 (by intro e;rw [e] at hi;simp at hi);have HO7:=hid ho;have HB7:=hid hb;have hsz7:=hb.size;clear ho hb n0 n1 n2 n3 n4 fn e0;obtain ⟨n0,n1,n2,n3,n4⟩:=aa (ae H0.out HB7.out);have HDE:=hid (nq n.keys i wc.heap.size g7 d7 w7 HO7.out hi (by omega));go_wp2_with fail;refine HDE.out.mono ?_;rintro e w8 ⟨rfl,ho,hg⟩;have HB8:=hid (HB7.out.grown hg (by omega) (fun k hk=>by injection hk with hk;omega));have HS8:=hid (ho.slf aP);have hsz8:=HB8.out.size;clear ho hg HO7 HB7 HDE n0 n1 n2 n3 n4;have H8:=hid (ae H0.out HB8.out);obtain ⟨n0,n1,n2,n3,n4⟩:=aa H8.out;have fn:=ab H8.out;generalize n.keys.length - 1=L1 at *;have HC9:=hid ((Ch.refl (fun k=>k=gn) w8).setCell (p:=⟨gn,1,none⟩) rfl (.slice (some ⟨g7,0,none⟩) L1 d7));have H9:=hid (show (w8.setCell ⟨gn,1,none⟩ (.slice (some ⟨g7,0,none⟩) L1 d7)).heap[gn]?=some (ap n (.slice (some ⟨g7,0,none⟩) L1 d7) (.slice A2 n.cells.length c2) (.slice (some ⟨b,off,none⟩) n.kids.length c3)) from ah H8.out 1 _);go_upto_region 15 with fail
  generalize w8.setCell ⟨gn,1,none⟩ (.slice (some ⟨g7,0,none⟩) L1 d7)=w9 at *;have hsz9:=HC9.out.size;have HL9:=hid ((Ch.of_below (S:=fun k=>k=gn) HB8.out).trans HC9.out);have Q1:=hid (HS8.out.ch HC9.out (fun k hk e=>by omega));have Q2:=hid (K2.out.ch' HL9.out M2.out);have Q3:=hid (K3.out.ch' HL9.out M3.out);have HC10:=hid (HC5.out.trans (HL9.out.mono (S':=dS gs gm gn) (fun _ _ e=>.inr (.inr e))));have HS10:=hid (HS5.out.ch HL9.out (by omega) (by omega));clear n0 n1 n2 n3 n4 fn H8 HS8;obtain ⟨n0,n1,n2,n3,n4⟩:=aa H9.out;have fn:=ab H9.out;go_wp2_with fail;refine (nz n.kids _ w9 Q3.out.sl (by omega)).mono ?_;rintro e wa ⟨va,rfl,ho,hb⟩;obtain ⟨ga,da,rfl,hga,hga'⟩:=ho.form2 (by intro e;rw [e] at hi2;simp at hi2);have HOa:=hid ho;have HBa:=hid hb;have hsza:=hb.size;clear ho hb n0 n1 n2 n3 n4 fn;obtain ⟨n0,n1,n2,n3,n4⟩:=aa (ae H9.out HBa.out);have HDE:=hid (rn n.kids (i+1) w9.heap.size ga da wa HOa.out hi2 (by omega));rw [show ((((i+1:Nat):Int))+1)=(i:Int)+2 by omega,show ((i+1:Nat):Int)=(i:Int)+1 by omega] at HDE;have hw2:IntKind.i64.wrap ((i:Int)+2)=(i:Int)+2:=by rw [IntKind.wrap_i64];omega
  go_wp2_with fail;refine HDE.out.mono ?_;rintro e wb ⟨rfl,ho,hg⟩;have HBb:=hid (HBa.out.grown hg (by omega) (fun k hk=>by injection hk with hk;omega));have HSb:=hid (ho.slf aA);have hszb:=HBb.out.size;clear ho hg HOa HBa HDE n0 n1 n2 n3 n4;have Hb:=hid (ae H9.out HBb.out);obtain ⟨n0,n1,n2,n3,n4⟩:=aa Hb.out;have fn:=ab Hb.out;generalize n.kids.length - 1=L3 at *;have HCc:=hid ((Ch.refl (fun k=>k=gn) wb).setCell (p:=⟨gn,3,none⟩) rfl (.slice (some ⟨ga,0,none⟩) L3 da));have Hc:=hid (show (wb.setCell ⟨gn,3,none⟩ (.slice (some ⟨ga,0,none⟩) L3 da)).heap[gn]?=some (ap n (.slice (some ⟨g7,0,none⟩) L1 d7) (.slice A2 n.cells.length c2) (.slice (some ⟨ga,0,none⟩) L3 da)) from ah Hb.out 3 _);go_upto_region 16 with fail
  generalize wb.setCell ⟨gn,3,none⟩ (.slice (some ⟨ga,0,none⟩) L3 da)=wd at *;have HLc:=hid ((Ch.of_below (S:=fun k=>k=gn) HBb.out).trans HCc.out);have HSd:=hid (HS10.out.ch HLc.out (by omega) (by omega))
  have HPd:=hid (show PN B gn { n with keys:=n.keys.eraseIdx i,kids:=n.kids.eraseIdx (i+1) } wd from PN.mk' Hc.out ((Q1.out.mono (by omega)).ch' HLc.out (fun k hk e=>by have:=Q1.out.far k hk;omega)) (Q2.out.ch' HLc.out M2.out) ((HSb.out.mono (by omega)).ch' HCc.out (fun k hk e=>by have:=HSb.out.far k hk;omega))
   (fun k hk e=>by have:=Q1.out.far k hk;omega) M2.out (fun k hk e=>by have:=HSb.out.far k hk;omega))
  have HCd:=hid (HC10.out.trans (HLc.out.mono (S':=dS gs gm gn) (fun _ _ e=>.inr (.inr e))));have HRf:=hid (HR2.out.trans (nj kc _ s5));have hszd:=HLc.out.size;clear n0 n1 n2 n3 n4 fn Hb HSb Q1 Q2 Q3 HC9 H9 HL9 HC10 HS10 HCc Hc HLc HR2;go_wp2_with fail;refine (gQ gs gm s5 kc wd HSd.out).mono ?_;rintro e we ⟨rfl,hs,hc⟩;have HSe:=hid hs;have HPe:=hid (HPd.out.ch hc (fun k hk e=>by omega) (by omega));have HCe:=hid (HCd.out.trans (eB hc));clear hs hc;by_cases hfe:co s5 kc=0
  ·have HV:=hid (HRf.out.trans (if_pos hfe));rw [hfe];go_wp2_with fail;go_ret;rw [HV.out];exact ⟨⟨rfl,HPe.out⟩,HSe.out,HCe.out⟩
  ·have HV:=hid (HRf.out.trans (if_neg hfe));generalize co s5 kc=fe at *;go_wp2_with fail;go_ret;rw [HV.out];exact ⟨⟨rfl,_,HPe.out⟩,HSe.out,HCe.out⟩
end Go.Proofs.YtknioodagnjchaaGreatDoor
