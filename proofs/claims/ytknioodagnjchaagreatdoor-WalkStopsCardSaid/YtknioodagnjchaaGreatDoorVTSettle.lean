/- tree.bad, settle. -/
import Derived.Test.YtknioodagnjchaaGreatDoorVTMeet
set_option maxRecDepth 100000
set_option maxHeartbeats 8000000
namespace Go.Proofs.YtknioodagnjchaaGreatDoor
open Go.RowKit
def badI (e:Int):Int:=if e=0 then 30 else e
theorem bad_any (x:Int) (w:World):Calls Tryz.prog 202 #[.int .i64 x] w fun e w'=>e=.returned (.int .i64 (badI x))∧w=w':=by
 go_enter Tryz.func202,Tryz.ntmps202
 by_cases h:x=0
 ·have HV:=Lib.hid (show badI x=30 by unfold badI;rw [if_pos h])
  have h1:(x == 0)=true:=by simpa using h
  go_wp2_with fail
  go_ret
  exact ⟨by rw [HV.out];rfl,rfl⟩
 ·have HV:=Lib.hid (show badI x=x by unfold badI;rw [if_neg h])
  have h1:(x == 0)=false:=by simpa using h
  go_wp2_with fail
  go_ret
  exact ⟨by rw [HV.out];rfl,rfl⟩
theorem settle_any (n c:Nd) (i B gs gm gn:Nat) (s:Sf) (vC:Value) (w:World) (hS:ShIs w gs gm s) (hN:PN B gn n w) (hC:NdF (gn+1) w vC c) (h1:gs<B) (h2:gm<B) (h3:B≤gn)
  (hf:c.Fit) (hs:c.Sm 400) (hnf:n.Fit) (hg:goodN n=true) (hn:n.Sm 229) (hl:n.leaf=false) (hi:i<n.kids.length):
  Calls Tryz.prog 168 #[shV gs,.pointer (some ⟨gn,0,none⟩),.int .i64 i,vC] w fun e w'=>PtP B gn w' e ((settleT n i c).run s).2∧ShIs w' gs gm ((settleT n i c).run s).1∧Ch (goT3 gs gm gn) w w':=by
 have hkl:n.kids.length=n.keys.length+1:=(hnf.d hl).1
 have hk0:0<n.keys.length:=List.length_pos_iff.2 (goodN_inner hg hl).2.1
 have HNF:=Lib.hid hC
 have HSC:=Lib.hid hs
 have HFC:=Lib.hid hf
 have HSN:=Lib.hid hn
 have HPT:=Lib.hid (fun (s:Sf) (w:World) (hS:ShIs w gs gm s) (hN:PN B gn n w) (hC:NdF (gn+1) w vC c)=>part_any n c i B gs gm gn s vC w hS hN (hC.mono (by omega)) h1 h2 h3 hf (hs.mono (by decide)) (hn.mono (by decide)) hi (by omega))
 obtain ⟨vk,vc,vd,rfl,j1,j2,j3⟩:=hC
 obtain ⟨D1,d1,rfl,-,-⟩:=j1.cap
 obtain ⟨D2,d2,rfl,-,-⟩:=j2.cap
 obtain ⟨D3,d3,rfl,-,-⟩:=j3.cap
 have HBL:=Lib.hid (show Below w.heap.size w (w.alloc (ndB c (.slice D1 c.keys.length d1) (.slice D2 c.cells.length d2) (.slice D3 c.kids.length d3))) from (Below.refl _ w).alloc (Nat.le_refl _) _)
 have HX1:=Lib.hid (blk_new (w0:=w) (g:=w.heap.size) (o:=ndB c (.slice D1 c.keys.length d1) (.slice D2 c.cells.length d2) (.slice D3 c.kids.length d3)) rfl)
 have HS0:=Lib.hid hS
 have HN0:=Lib.hid hN
 have hgn:gn<w.heap.size:=hN.out
 clear j1 j2 j3 hS hN hf hs hn hnf
 have hck:=HSC.out.k
 have HKL:=Lib.hid hkl
 have hkb:n.kids.length≤230:=HSN.out.d
 have hkk:n.keys.length≤229:=HSN.out.k
 clear hkl
 unfold shV
 go_enter Tryz.func168,Tryz.ntmps168
 go_upto_region 1 with fail
 generalize hw1:w.alloc (.cells #[.bool c.leaf,.slice D1 c.keys.length d1,.slice D2 c.cells.length d2,.slice D3 c.kids.length d3] 110)=w1 at *
 have hw2:w.alloc (ndB c (.slice D1 c.keys.length d1) (.slice D2 c.cells.length d2) (.slice D3 c.kids.length d3))=w1:=hw1
 rw [hw2] at HBL HX1
 clear hw1 hw2
 have HNF1:=Lib.hid (HNF.out.keep HBL.out)
 have HS1:=Lib.hid (HS0.out.ch (S:=fun _=>False) (Ch.of_below HBL.out) id id)
 have HN1:=Lib.hid (HN0.out.keep HBL.out)
 have HFI:=Lib.hid (fun (w':World) (h:Below w1.heap.size w1 w')=>fits_any c _ w' (HNF1.out.keep h).val (HSC.out.bd (by decide)))
 have HTS:=Lib.hid (fun (w':World) (h:Below w1.heap.size w1 w')=>tsize_any c _ w' (HNF1.out.keep h).val (HSC.out.bd (by decide)))
 have hw10:w.heap.size<w1.heap.size:=blk_lt HX1.out
 obtain ⟨a0,a1,a2,a3,a4⟩:=nd_cells HX1.out
 have HGR:=Lib.hid (show greatN c=((c.leaf && decide (0<c.keys.length) && !fitsN c) || (!c.leaf && !fitsN c)) by
  unfold greatN
  cases c.keys <;> simp)
 cases hcl:c.leaf
 ·rw [hcl] at a0
  have HGR2:=Lib.hid (show greatN c=!fitsN c by rw [HGR.out,hcl];simp)
  have HCL:=Lib.hid hcl
  rw [hcl] at HFI HTS HNF1
  go_wp2_with fail
  refine (HFI.out w1 (Below.refl _ _)).mono ?_
  rintro e w2 ⟨rfl,hb⟩
  have HK2:=Lib.hid hb
  clear hb a0 a1 a2 a3 a4
  obtain ⟨a0,a1,a2,a3,a4⟩:=nd_cells (blk_keep HX1.out HK2.out)
  rw [hcl] at a0
  cases hft:fitsN c
  ·rw [hft] at HGR2
   have HV:=Lib.hid (show settleT n i c=partT n i c by unfold settleT;rw [HGR2.out];rfl)
   have HN2:=Lib.hid (HN1.out.keep HK2.out)
   have HS2:=Lib.hid (HS1.out.ch (S:=fun _=>False) (Ch.of_below HK2.out) id id)
   have HNF2:=Lib.hid (HNF1.out.keep HK2.out)
   have HPX:=Lib.hid (HPT.out s w2 HS2.out HN2.out (by rw [HCL.out];exact HNF2.out))
   rw [HCL.out] at HPX
   unfold shV at HPX
   go_wp2_with fail
   refine HPX.out.mono ?_
   rintro e w3 ⟨hp,hs,hc⟩
   have HS3:=Lib.hid hs
   have HC3:=Lib.hid (((Ch.of_below (S:=goT3 gs gm gn) HBL.out).trans (Ch.of_below HK2.out)).trans hc)
   clear hs hc a0 a1 a2 a3 a4
   obtain ⟨⟨s5,a⟩,hx⟩:∃ x,(partT n i c).run s=x:=⟨_,rfl⟩
   rw [hx] at HS3 hp
   have HX:=Lib.hid hx
   clear hx
   rcases a with m | x
   case ok=>
    obtain ⟨rfl,hp⟩:=hp
    have HP3:=Lib.hid hp
    clear hp
    go_wp2_with fail
    go_ret
    rw [HV.out,HX.out]
    exact ⟨⟨rfl,HP3.out⟩,HS3.out,HC3.out⟩
   case err=>
    obtain ⟨rfl,m,hp⟩:=hp
    have HP3:=Lib.hid hp
    clear hp
    go_wp2_with fail
    go_ret
    rw [HV.out,HX.out]
    exact ⟨⟨rfl,m,HP3.out⟩,HS3.out,HC3.out⟩
  ·rw [hft] at HGR2
   go_wp2_with fail
   refine (HTS.out w2 HK2.out).mono ?_
   rintro e w3 ⟨rfl,hb⟩
   have HK3:=Lib.hid (HK2.out.trans (hb.mono HK2.out.size))
   clear hb a0 a1 a2 a3 a4
   obtain ⟨a0,a1,a2,a3,a4⟩:=nd_cells (blk_keep HX1.out HK3.out)
   rw [HCL.out] at a0
   have HBW:=Lib.hid (HBL.out.trans (HK3.out.mono HBL.out.size))
   have HN3:=Lib.hid (HN1.out.keep HK3.out)
   have HS3:=Lib.hid (HS1.out.ch (S:=fun _=>False) (Ch.of_below HK3.out) id id)
   have HNF3:=Lib.hid (HNF1.out.keep HK3.out)
   have HST:=Lib.hid (show settleT n i c=if 77≤tsize c then (writeT (n.kids.getD i 0) c).bind fun _=>.pure n
    else if 0<i then (readT (n.kids.getD (i - 1) 0)).bind fun l=>if l.leaf=c.leaf then meetT n (i - 1) l c else .fail 30
    else (readT (n.kids.getD 1 0)).bind fun r=>if r.leaf=c.leaf then meetT n 0 c r else .fail 30 by
    unfold settleT;rw [HGR2.out];rfl)
   have hgb:w.heap.size<w3.heap.size:=blk_lt (blk_keep HX1.out HK3.out)
   by_cases hsz:77≤tsize c
   ·have hsz1:(77:Int)≤(tsize c:Int):=by omega
    obtain ⟨kd,hkd⟩:∃ x,n.kids[i]=x:=⟨_,rfl⟩
    have HKD:=Lib.hid hkd
    have HRU:=Lib.hid (show (settleT n i c).run s=((writeT kd c).bind fun _=>.pure n).run s by
     rw [HST.out,if_pos hsz,List.getD_eq_getElem?_getD,List.getElem?_eq_getElem hi,← HKD.out];rfl)
    clear hkd
    obtain ⟨A1,c1,A2,c2,A3,c3,h0,k1,k2,k3,m1,m2,m3⟩:=HN3.out
    have H0:=Lib.hid h0
    have K1:=Lib.hid k1
    have K2:=Lib.hid k2
    have K3:=Lib.hid k3
    have M2:=Lib.hid m2
    have M3:=Lib.hid m3
    obtain ⟨n0,n1,n2,n3,n4⟩:=nd_cells h0
    obtain ⟨b,off,c',he,hbl,hcells⟩:=k3.sl.at1 (show i<n.kids.length from hi)
    injection he with he1 he2 he3
    subst he1 he3
    have e0:w3.cell? ⟨b,off+(i),none⟩=some (.int .i64 (n.kids[i]'hi)):=by simpa [iC] using hcells 0 _ rfl
    rw [HKD.out] at e0
    clear h0 k1 k2 k3 m1 m2 m3 hcells he2
    have hi0:(0:Int)≤(i:Int):=by omega
    have hi1:(i:Int)<(n.kids.length:Int):=by omega
    have HSD:=Lib.hid (HS3.out.ch (S:=fun _=>False) (Ch.refl _ w3).drew id id)
    have HRD:=Lib.hid ((HNF3.out.ch (S:=fun _=>False) (Ch.refl _ w3).drew (fun _ _=>id)).val)
    go_wp2_with fail
    go_region_law (first
     | (go_simp
        go_at_call 66
        refine (twrite_any kd c _ gs gm s w3.drew HSD.out HRD.out (HSC.out.bd (by decide))).mono ?_
        rintro e wf ⟨rfl,hs,hc⟩
        have HSf:=Lib.hid hs
        have HHf:=Lib.hid ((Ch.refl _ w3).drew.trans hc)
        clear hs hc))
    all_goals
     have HPf:=Lib.hid (HN3.out.ch HHf.out (fun k hk e=>by omega) (by omega))
     have HCf:=Lib.hid (show Ch (goT3 gs gm gn) w wf from (Ch.of_below HBW.out).trans (ch2_3 HHf.out))
     clear n0 n1 n2 n3 n4 e0 a0 a1 a2 a3 a4
     have hnz:=Pro.NZ.run (writeT kd c) s
     obtain ⟨⟨s6,a⟩,hx⟩:∃ x,(writeT kd c).run s=x:=⟨_,rfl⟩
     rw [hx] at HSf hnz ⊢
     rcases a with u | x
     case ok=>
      have HV:=Lib.hid (HRU.out.trans (run_bind_ok hx))
      simp only [errV]
      go_wp2_with fail
      go_ret
      rw [HV.out]
      exact ⟨⟨rfl,HPf.out⟩,HSf.out,HCf.out⟩
     case err=>
      have HV:=Lib.hid (HRU.out.trans (run_bind_err hx))
      simp only [errV]
      go_wp2_with fail
      go_ret
      rw [HV.out]
      exact ⟨⟨rfl,n,HPf.out⟩,HSf.out,HCf.out⟩
   ·have hsz1:¬ ((77:Int)≤(tsize c:Int)):=by omega
    by_cases hi0:0<i
    ·have hii:(0:Int)<(i:Int):=by omega
     have hw1:IntKind.i64.wrap ((i:Int) - 1)=((i - 1:Nat):Int):=by rw [IntKind.wrap_i64];omega
     have HRU:=Lib.hid (show (settleT n i c).run s=((readT (n.kids.getD (i - 1) 0)).bind fun l=>if l.leaf=c.leaf then meetT n (i - 1) l c else .fail 30).run s by
      rw [HST.out,if_neg hsz,if_pos hi0])
     obtain ⟨j,hj⟩:∃ j,i - 1=j:=⟨_,rfl⟩
     rw [hj] at HRU hw1
     have hjl:j<n.kids.length:=by omega
     have hjk:j<n.keys.length:=by have:=HKL.out;omega
     have hjl2:j+1<n.kids.length:=by omega
     have hji:(j:Int)<(n.kids.length:Int):=by omega
     have hj0:(0:Int)≤(j:Int):=by omega
     have HJ:=Lib.hid hj
     clear hj
     obtain ⟨kd,hkd⟩:∃ x,n.kids[j]=x:=⟨_,rfl⟩
     have HKD:=Lib.hid hkd
     rw [show n.kids.getD (j) 0=kd by rw [List.getD_eq_getElem?_getD,List.getElem?_eq_getElem (by omega),← HKD.out];rfl] at HRU
     clear hkd
     obtain ⟨A1,c1,A2,c2,A3,c3,h0,k1,k2,k3,m1,m2,m3⟩:=HN3.out
     have H0:=Lib.hid h0
     have K1:=Lib.hid k1
     have K2:=Lib.hid k2
     have K3:=Lib.hid k3
     have M2:=Lib.hid m2
     have M3:=Lib.hid m3
     obtain ⟨n0,n1,n2,n3,n4⟩:=nd_cells h0
     obtain ⟨b,off,c',he,hbl,hcells⟩:=k3.sl.at1 (show j<n.kids.length from (by omega))
     injection he with he1 he2 he3
     subst he1 he3
     have e0:w3.cell? ⟨b,off+(j),none⟩=some (.int .i64 (n.kids[j]'(by omega))):=by simpa [iC] using hcells 0 _ rfl
     rw [HKD.out] at e0
     clear h0 k1 k2 k3 m1 m2 m3 hcells he2
     go_wp2_with fail
     refine (tread_any kd gs gm s w3 HS3.out).mono ?_
     rintro e w4 ⟨hp,hs,hc⟩
     have hrz:=readT_run_nz (a:=kd) (s:=s)
     obtain ⟨⟨s2,a⟩,hx⟩:∃ x,(readT kd).run s=x:=⟨_,rfl⟩
     rw [hx] at hp hs hrz
     have HS4:=Lib.hid hs
     have HN4:=Lib.hid (HN3.out.ch hc (fun k hk e=>by omega) (by omega))
     have HNF4:=Lib.hid (HNF3.out.ch hc (fun k hk e=>by omega))
     have HC4:=Lib.hid (show Ch (goT3 gs gm gn) w w4 from (Ch.of_below HBW.out).trans (ch2_3 hc))
     have HX4:=Lib.hid (hc.keep (blk_keep HX1.out HK3.out) (by omega))
     have hsz4:=hc.size
     have HX:=Lib.hid hx
     clear hs hc hx n0 n1 n2 n3 n4 e0 a0 a1 a2 a3 a4
     cases a with
     | err x=>
       obtain rfl:=hp
       have hx0:¬ x=0:=hrz x rfl
       have hx1:(x == 0)=false:=by simpa using hx0
       have HV:=Lib.hid (HRU.out.trans (run_bind_err HX.out))
       have HS5:=Lib.hid (HS4.out.ch (S:=fun _=>False) (Ch.alloc (Ch.refl _ w4) (ndB Nd.zero (.slice none 0 0) (.slice none 0 0) (.slice none 0 0))) id id)
       have HC5:=Lib.hid (Ch.alloc HC4.out (ndB Nd.zero (.slice none 0 0) (.slice none 0 0) (.slice none 0 0)))
       have HBD:=Lib.hid (show badI x=x by unfold badI;rw [if_neg hx0])
       simp only [ndZ]
       go_wp2_with fail
       refine (bad_any x _).mono ?_
       rw [HBD.out]
       rintro e w5 ⟨rfl,rfl⟩
       have HN5:=Lib.hid (HN4.out.keep ((Below.refl _ w4).alloc (Nat.le_refl _) (ndB Nd.zero (.slice none 0 0) (.slice none 0 0) (.slice none 0 0))))
       go_wp2_with fail
       go_ret
       rw [HV.out]
       exact ⟨⟨rfl,n,HN5.out⟩,HS5.out,HC5.out⟩
     | ok m=>
       obtain ⟨v,rfl,vk,vc,vd,rfl,y1,y2,y3,y4⟩:=hp
       obtain ⟨hg2,hsm2⟩:=ans_read HX.out
       have HGD:=Lib.hid hg2
       have HSM:=Lib.hid (hsm2.mono (show 229≤400 by decide))
       have HRV:=Lib.hid (HRU.out.trans (run_bind_ok HX.out))
       obtain ⟨L1,e1,rfl⟩:=y1.form
       obtain ⟨L2,e2,rfl⟩:=y2.form
       obtain ⟨L3,e3,rfl⟩:=y3.form
       have HMF:=Lib.hid (show NdF (gn+1) w4 (.agg #[.bool m.leaf,.slice L1 m.keys.length e1,.slice L2 m.cells.length e2,.slice L3 m.kids.length e3]) m from ⟨_,_,_,rfl,(y1.slf sC_len).mono (by omega),(y2.slf cC_len).mono (by omega),(y3.slf iC_len).mono (by omega)⟩)
       clear y1 y2 y3 y4 hg2 hsm2
       have HBA:=Lib.hid (show Below w4.heap.size w4 (w4.alloc (ndB m (.slice L1 m.keys.length e1) (.slice L2 m.cells.length e2) (.slice L3 m.kids.length e3))) from (Below.refl _ w4).alloc (Nat.le_refl _) _)
       have HM5:=Lib.hid (blk_new (w0:=w4) (g:=w4.heap.size) (o:=ndB m (.slice L1 m.keys.length e1) (.slice L2 m.cells.length e2) (.slice L3 m.kids.length e3)) rfl)
       go_upto_region 8 with fail
       generalize hw1:w4.alloc (.cells #[.bool m.leaf,.slice L1 m.keys.length e1,.slice L2 m.cells.length e2,.slice L3 m.kids.length e3] 110)=w5 at *
       have hw2:w4.alloc (ndB m (.slice L1 m.keys.length e1) (.slice L2 m.cells.length e2) (.slice L3 m.kids.length e3))=w5:=hw1
       rw [hw2] at HBA HM5
       clear hw1 hw2
       have HN5:=Lib.hid (HN4.out.keep HBA.out)
       have HS5:=Lib.hid (HS4.out.ch (S:=fun _=>False) (Ch.of_below HBA.out) id id)
       have HNF5:=Lib.hid (HNF4.out.keep HBA.out)
       have HMF5:=Lib.hid (HMF.out.keep HBA.out)
       have HC5:=Lib.hid (HC4.out.trans (Ch.of_below (S:=goT3 gs gm gn) HBA.out))
       have HX5:=Lib.hid (blk_keep HX4.out HBA.out)
       obtain ⟨a0,a1,a2,a3,a4⟩:=nd_cells HX5.out
       rw [HCL.out] at a0
       obtain ⟨p0,p1,p2,p3,p4⟩:=nd_cells HM5.out
       by_cases hml:m.leaf=c.leaf
       ·have HML:=Lib.hid hml
        have HV:=Lib.hid (HRV.out.trans (show ((if m.leaf=c.leaf then _ else _:Pro Nd)).run s2=_ by rw [if_pos hml]))
        rw [HCL.out] at hml
        rw [hml] at p0
        have HMT:=Lib.hid (meet_any n m c (j) B gs gm gn s2 _ _ w5 HS5.out HN5.out HMF5.out HNF5.out h1 h2 h3 (good_fit HGD.out) HFC.out (by first | exact HML.out | exact HML.out.symm) HSM.out HSC.out (HSN.out.mono (by decide)) hjk hjl2)
        rw [hml] at HMT
        unfold shV at HMT
        go_wp2_with fail
        refine HMT.out.mono ?_
        rintro e w6 ⟨hp,hs,hc⟩
        have HS6:=Lib.hid hs
        have HC6:=Lib.hid (HC5.out.trans hc)
        clear hs hc a0 a1 a2 a3 a4 p0 p1 p2 p3 p4 HMT
        obtain ⟨⟨s6,a⟩,hx⟩:∃ x,(meetT n (j) m c).run s2=x:=⟨_,rfl⟩
        rw [hx] at HS6 hp
        have HX6:=Lib.hid hx
        clear hx
        rcases a with q | x
        case ok=>
         obtain ⟨rfl,hp⟩:=hp
         have HP6:=Lib.hid hp
         clear hp
         go_wp2_with fail
         go_ret
         rw [HV.out,HX6.out]
         exact ⟨⟨rfl,HP6.out⟩,HS6.out,HC6.out⟩
        case err=>
         obtain ⟨rfl,q,hp⟩:=hp
         have HP6:=Lib.hid hp
         clear hp
         go_wp2_with fail
         go_ret
         rw [HV.out,HX6.out]
         exact ⟨⟨rfl,q,HP6.out⟩,HS6.out,HC6.out⟩
       ·have HV:=Lib.hid (HRV.out.trans (show ((if m.leaf=c.leaf then _ else Pro.fail 30:Pro Nd)).run s2=(s2,.err 30) by rw [if_neg hml];rfl))
        have hmb:(m.leaf == false)=false:=by
         rw [HCL.out] at hml
         cases hmx:m.leaf <;> first | rfl | exact absurd hmx hml
        have HBD:=Lib.hid (show badI 0=30 from rfl)
        clear hml
        go_wp2_with fail
        refine (bad_any 0 _).mono ?_
        rw [HBD.out]
        rintro e w6 ⟨rfl,rfl⟩
        go_wp2_with fail
        go_ret
        rw [HV.out]
        exact ⟨⟨rfl,n,HN5.out⟩,HS5.out,HC5.out⟩
    ·obtain rfl:i=0:=by omega
     have HRU:=Lib.hid (show (settleT n 0 c).run s=((readT (n.kids.getD 1 0)).bind fun r=>if r.leaf=c.leaf then meetT n 0 c r else .fail 30).run s by
      rw [HST.out,if_neg hsz,if_neg hi0])
     have hii:¬ ((0:Int)<((0:Nat):Int)):=by omega
     have hjk:0<n.keys.length:=hk0
     have hjl2:0+1<n.kids.length:=by have:=HKL.out;omega
     have hji:(1:Int)<(n.kids.length:Int):=by omega
     obtain ⟨kd,hkd⟩:∃ x,n.kids[1]=x:=⟨_,rfl⟩
     have HKD:=Lib.hid hkd
     rw [show n.kids.getD (1) 0=kd by rw [List.getD_eq_getElem?_getD,List.getElem?_eq_getElem (by omega),← HKD.out];rfl] at HRU
     clear hkd
     obtain ⟨A1,c1,A2,c2,A3,c3,h0,k1,k2,k3,m1,m2,m3⟩:=HN3.out
     have H0:=Lib.hid h0
     have K1:=Lib.hid k1
     have K2:=Lib.hid k2
     have K3:=Lib.hid k3
     have M2:=Lib.hid m2
     have M3:=Lib.hid m3
     obtain ⟨n0,n1,n2,n3,n4⟩:=nd_cells h0
     obtain ⟨b,off,c',he,hbl,hcells⟩:=k3.sl.at1 (show 1<n.kids.length from (by omega))
     injection he with he1 he2 he3
     subst he1 he3
     have e0:w3.cell? ⟨b,off+(1),none⟩=some (.int .i64 (n.kids[1]'(by omega))):=by simpa [iC] using hcells 0 _ rfl
     rw [HKD.out] at e0
     clear h0 k1 k2 k3 m1 m2 m3 hcells he2
     go_wp2_with fail
     refine (tread_any kd gs gm s w3 HS3.out).mono ?_
     rintro e w4 ⟨hp,hs,hc⟩
     have hrz:=readT_run_nz (a:=kd) (s:=s)
     obtain ⟨⟨s2,a⟩,hx⟩:∃ x,(readT kd).run s=x:=⟨_,rfl⟩
     rw [hx] at hp hs hrz
     have HS4:=Lib.hid hs
     have HN4:=Lib.hid (HN3.out.ch hc (fun k hk e=>by omega) (by omega))
     have HNF4:=Lib.hid (HNF3.out.ch hc (fun k hk e=>by omega))
     have HC4:=Lib.hid (show Ch (goT3 gs gm gn) w w4 from (Ch.of_below HBW.out).trans (ch2_3 hc))
     have HX4:=Lib.hid (hc.keep (blk_keep HX1.out HK3.out) (by omega))
     have hsz4:=hc.size
     have HX:=Lib.hid hx
     clear hs hc hx n0 n1 n2 n3 n4 e0 a0 a1 a2 a3 a4
     cases a with
     | err x=>
       obtain rfl:=hp
       have hx0:¬ x=0:=hrz x rfl
       have hx1:(x == 0)=false:=by simpa using hx0
       have HV:=Lib.hid (HRU.out.trans (run_bind_err HX.out))
       have HS5:=Lib.hid (HS4.out.ch (S:=fun _=>False) (Ch.alloc (Ch.refl _ w4) (ndB Nd.zero (.slice none 0 0) (.slice none 0 0) (.slice none 0 0))) id id)
       have HC5:=Lib.hid (Ch.alloc HC4.out (ndB Nd.zero (.slice none 0 0) (.slice none 0 0) (.slice none 0 0)))
       have HBD:=Lib.hid (show badI x=x by unfold badI;rw [if_neg hx0])
       simp only [ndZ]
       go_wp2_with fail
       refine (bad_any x _).mono ?_
       rw [HBD.out]
       rintro e w5 ⟨rfl,rfl⟩
       have HN5:=Lib.hid (HN4.out.keep ((Below.refl _ w4).alloc (Nat.le_refl _) (ndB Nd.zero (.slice none 0 0) (.slice none 0 0) (.slice none 0 0))))
       go_wp2_with fail
       go_ret
       rw [HV.out]
       exact ⟨⟨rfl,n,HN5.out⟩,HS5.out,HC5.out⟩
     | ok m=>
       obtain ⟨v,rfl,vk,vc,vd,rfl,y1,y2,y3,y4⟩:=hp
       obtain ⟨hg2,hsm2⟩:=ans_read HX.out
       have HGD:=Lib.hid hg2
       have HSM:=Lib.hid (hsm2.mono (show 229≤400 by decide))
       have HRV:=Lib.hid (HRU.out.trans (run_bind_ok HX.out))
       obtain ⟨L1,e1,rfl⟩:=y1.form
       obtain ⟨L2,e2,rfl⟩:=y2.form
       obtain ⟨L3,e3,rfl⟩:=y3.form
       have HMF:=Lib.hid (show NdF (gn+1) w4 (.agg #[.bool m.leaf,.slice L1 m.keys.length e1,.slice L2 m.cells.length e2,.slice L3 m.kids.length e3]) m from ⟨_,_,_,rfl,(y1.slf sC_len).mono (by omega),(y2.slf cC_len).mono (by omega),(y3.slf iC_len).mono (by omega)⟩)
       clear y1 y2 y3 y4 hg2 hsm2
       have HBA:=Lib.hid (show Below w4.heap.size w4 (w4.alloc (ndB m (.slice L1 m.keys.length e1) (.slice L2 m.cells.length e2) (.slice L3 m.kids.length e3))) from (Below.refl _ w4).alloc (Nat.le_refl _) _)
       have HM5:=Lib.hid (blk_new (w0:=w4) (g:=w4.heap.size) (o:=ndB m (.slice L1 m.keys.length e1) (.slice L2 m.cells.length e2) (.slice L3 m.kids.length e3)) rfl)
       go_upto_region 12 with fail
       generalize hw1:w4.alloc (.cells #[.bool m.leaf,.slice L1 m.keys.length e1,.slice L2 m.cells.length e2,.slice L3 m.kids.length e3] 110)=w5 at *
       have hw2:w4.alloc (ndB m (.slice L1 m.keys.length e1) (.slice L2 m.cells.length e2) (.slice L3 m.kids.length e3))=w5:=hw1
       rw [hw2] at HBA HM5
       clear hw1 hw2
       have HN5:=Lib.hid (HN4.out.keep HBA.out)
       have HS5:=Lib.hid (HS4.out.ch (S:=fun _=>False) (Ch.of_below HBA.out) id id)
       have HNF5:=Lib.hid (HNF4.out.keep HBA.out)
       have HMF5:=Lib.hid (HMF.out.keep HBA.out)
       have HC5:=Lib.hid (HC4.out.trans (Ch.of_below (S:=goT3 gs gm gn) HBA.out))
       have HX5:=Lib.hid (blk_keep HX4.out HBA.out)
       obtain ⟨a0,a1,a2,a3,a4⟩:=nd_cells HX5.out
       rw [HCL.out] at a0
       obtain ⟨p0,p1,p2,p3,p4⟩:=nd_cells HM5.out
       by_cases hml:m.leaf=c.leaf
       ·have HML:=Lib.hid hml
        have HV:=Lib.hid (HRV.out.trans (show ((if m.leaf=c.leaf then _ else _:Pro Nd)).run s2=_ by rw [if_pos hml]))
        rw [HCL.out] at hml
        rw [hml] at p0
        have HMT:=Lib.hid (meet_any n c m (0) B gs gm gn s2 _ _ w5 HS5.out HN5.out HNF5.out HMF5.out h1 h2 h3 HFC.out (good_fit HGD.out) (by first | exact HML.out | exact HML.out.symm) HSC.out HSM.out (HSN.out.mono (by decide)) hjk hjl2)
        rw [hml] at HMT
        unfold shV at HMT
        go_wp2_with fail
        refine HMT.out.mono ?_
        rintro e w6 ⟨hp,hs,hc⟩
        have HS6:=Lib.hid hs
        have HC6:=Lib.hid (HC5.out.trans hc)
        clear hs hc a0 a1 a2 a3 a4 p0 p1 p2 p3 p4 HMT
        obtain ⟨⟨s6,a⟩,hx⟩:∃ x,(meetT n (0) c m).run s2=x:=⟨_,rfl⟩
        rw [hx] at HS6 hp
        have HX6:=Lib.hid hx
        clear hx
        rcases a with q | x
        case ok=>
         obtain ⟨rfl,hp⟩:=hp
         have HP6:=Lib.hid hp
         clear hp
         go_wp2_with fail
         go_ret
         rw [HV.out,HX6.out]
         exact ⟨⟨rfl,HP6.out⟩,HS6.out,HC6.out⟩
        case err=>
         obtain ⟨rfl,q,hp⟩:=hp
         have HP6:=Lib.hid hp
         clear hp
         go_wp2_with fail
         go_ret
         rw [HV.out,HX6.out]
         exact ⟨⟨rfl,q,HP6.out⟩,HS6.out,HC6.out⟩
       ·have HV:=Lib.hid (HRV.out.trans (show ((if m.leaf=c.leaf then _ else Pro.fail 30:Pro Nd)).run s2=(s2,.err 30) by rw [if_neg hml];rfl))
        have hmb:(m.leaf == false)=false:=by
         rw [HCL.out] at hml
         cases hmx:m.leaf <;> first | rfl | exact absurd hmx hml
        have HBD:=Lib.hid (show badI 0=30 from rfl)
        clear hml
        go_wp2_with fail
        refine (bad_any 0 _).mono ?_
        rw [HBD.out]
        rintro e w6 ⟨rfl,rfl⟩
        go_wp2_with fail
        go_ret
        rw [HV.out]
        exact ⟨⟨rfl,n,HN5.out⟩,HS5.out,HC5.out⟩
 ·rw [hcl] at a0
  have HCL:=Lib.hid hcl
  rw [hcl] at HFI HTS HNF1
  by_cases hk:0<c.keys.length
  ·have HGR2:=Lib.hid (show greatN c=!fitsN c by rw [HGR.out,hcl,decide_eq_true hk];simp)
   have hk1:(0:Int)<(c.keys.length:Int):=by omega
   go_wp2_with fail
   refine (HFI.out w1 (Below.refl _ _)).mono ?_
   rintro e w2 ⟨rfl,hb⟩
   have HK2:=Lib.hid hb
   clear hb a0 a1 a2 a3 a4
   obtain ⟨a0,a1,a2,a3,a4⟩:=nd_cells (blk_keep HX1.out HK2.out)
   rw [hcl] at a0
   cases hft:fitsN c
   ·rw [hft] at HGR2
    have HV:=Lib.hid (show settleT n i c=partT n i c by unfold settleT;rw [HGR2.out];rfl)
    have HN2:=Lib.hid (HN1.out.keep HK2.out)
    have HS2:=Lib.hid (HS1.out.ch (S:=fun _=>False) (Ch.of_below HK2.out) id id)
    have HNF2:=Lib.hid (HNF1.out.keep HK2.out)
    have HPX:=Lib.hid (HPT.out s w2 HS2.out HN2.out (by rw [HCL.out];exact HNF2.out))
    rw [HCL.out] at HPX
    unfold shV at HPX
    go_wp2_with fail
    refine HPX.out.mono ?_
    rintro e w3 ⟨hp,hs,hc⟩
    have HS3:=Lib.hid hs
    have HC3:=Lib.hid (((Ch.of_below (S:=goT3 gs gm gn) HBL.out).trans (Ch.of_below HK2.out)).trans hc)
    clear hs hc a0 a1 a2 a3 a4
    obtain ⟨⟨s5,a⟩,hx⟩:∃ x,(partT n i c).run s=x:=⟨_,rfl⟩
    rw [hx] at HS3 hp
    have HX:=Lib.hid hx
    clear hx
    rcases a with m | x
    case ok=>
     obtain ⟨rfl,hp⟩:=hp
     have HP3:=Lib.hid hp
     clear hp
     go_wp2_with fail
     go_ret
     rw [HV.out,HX.out]
     exact ⟨⟨rfl,HP3.out⟩,HS3.out,HC3.out⟩
    case err=>
     obtain ⟨rfl,m,hp⟩:=hp
     have HP3:=Lib.hid hp
     clear hp
     go_wp2_with fail
     go_ret
     rw [HV.out,HX.out]
     exact ⟨⟨rfl,m,HP3.out⟩,HS3.out,HC3.out⟩
   ·rw [hft] at HGR2
    go_wp2_with fail
    refine (HTS.out w2 HK2.out).mono ?_
    rintro e w3 ⟨rfl,hb⟩
    have HK3:=Lib.hid (HK2.out.trans (hb.mono HK2.out.size))
    clear hb a0 a1 a2 a3 a4
    obtain ⟨a0,a1,a2,a3,a4⟩:=nd_cells (blk_keep HX1.out HK3.out)
    rw [HCL.out] at a0
    have HBW:=Lib.hid (HBL.out.trans (HK3.out.mono HBL.out.size))
    have HN3:=Lib.hid (HN1.out.keep HK3.out)
    have HS3:=Lib.hid (HS1.out.ch (S:=fun _=>False) (Ch.of_below HK3.out) id id)
    have HNF3:=Lib.hid (HNF1.out.keep HK3.out)
    have HST:=Lib.hid (show settleT n i c=if 77≤tsize c then (writeT (n.kids.getD i 0) c).bind fun _=>.pure n
     else if 0<i then (readT (n.kids.getD (i - 1) 0)).bind fun l=>if l.leaf=c.leaf then meetT n (i - 1) l c else .fail 30
     else (readT (n.kids.getD 1 0)).bind fun r=>if r.leaf=c.leaf then meetT n 0 c r else .fail 30 by
     unfold settleT;rw [HGR2.out];rfl)
    have hgb:w.heap.size<w3.heap.size:=blk_lt (blk_keep HX1.out HK3.out)
    by_cases hsz:77≤tsize c
    ·have hsz1:(77:Int)≤(tsize c:Int):=by omega
     obtain ⟨kd,hkd⟩:∃ x,n.kids[i]=x:=⟨_,rfl⟩
     have HKD:=Lib.hid hkd
     have HRU:=Lib.hid (show (settleT n i c).run s=((writeT kd c).bind fun _=>.pure n).run s by
      rw [HST.out,if_pos hsz,List.getD_eq_getElem?_getD,List.getElem?_eq_getElem hi,← HKD.out];rfl)
     clear hkd
     obtain ⟨A1,c1,A2,c2,A3,c3,h0,k1,k2,k3,m1,m2,m3⟩:=HN3.out
     have H0:=Lib.hid h0
     have K1:=Lib.hid k1
     have K2:=Lib.hid k2
     have K3:=Lib.hid k3
     have M2:=Lib.hid m2
     have M3:=Lib.hid m3
     obtain ⟨n0,n1,n2,n3,n4⟩:=nd_cells h0
     obtain ⟨b,off,c',he,hbl,hcells⟩:=k3.sl.at1 (show i<n.kids.length from hi)
     injection he with he1 he2 he3
     subst he1 he3
     have e0:w3.cell? ⟨b,off+(i),none⟩=some (.int .i64 (n.kids[i]'hi)):=by simpa [iC] using hcells 0 _ rfl
     rw [HKD.out] at e0
     clear h0 k1 k2 k3 m1 m2 m3 hcells he2
     have hi0:(0:Int)≤(i:Int):=by omega
     have hi1:(i:Int)<(n.kids.length:Int):=by omega
     have HSD:=Lib.hid (HS3.out.ch (S:=fun _=>False) (Ch.refl _ w3).drew id id)
     have HRD:=Lib.hid ((HNF3.out.ch (S:=fun _=>False) (Ch.refl _ w3).drew (fun _ _=>id)).val)
     go_wp2_with fail
     go_region_law (first
      | (go_simp
         go_at_call 66
         refine (twrite_any kd c _ gs gm s w3.drew HSD.out HRD.out (HSC.out.bd (by decide))).mono ?_
         rintro e wf ⟨rfl,hs,hc⟩
         have HSf:=Lib.hid hs
         have HHf:=Lib.hid ((Ch.refl _ w3).drew.trans hc)
         clear hs hc))
     all_goals
      have HPf:=Lib.hid (HN3.out.ch HHf.out (fun k hk e=>by omega) (by omega))
      have HCf:=Lib.hid (show Ch (goT3 gs gm gn) w wf from (Ch.of_below HBW.out).trans (ch2_3 HHf.out))
      clear n0 n1 n2 n3 n4 e0 a0 a1 a2 a3 a4
      have hnz:=Pro.NZ.run (writeT kd c) s
      obtain ⟨⟨s6,a⟩,hx⟩:∃ x,(writeT kd c).run s=x:=⟨_,rfl⟩
      rw [hx] at HSf hnz ⊢
      rcases a with u | x
      case ok=>
       have HV:=Lib.hid (HRU.out.trans (run_bind_ok hx))
       simp only [errV]
       go_wp2_with fail
       go_ret
       rw [HV.out]
       exact ⟨⟨rfl,HPf.out⟩,HSf.out,HCf.out⟩
      case err=>
       have HV:=Lib.hid (HRU.out.trans (run_bind_err hx))
       simp only [errV]
       go_wp2_with fail
       go_ret
       rw [HV.out]
       exact ⟨⟨rfl,n,HPf.out⟩,HSf.out,HCf.out⟩
    ·have hsz1:¬ ((77:Int)≤(tsize c:Int)):=by omega
     by_cases hi0:0<i
     ·have hii:(0:Int)<(i:Int):=by omega
      have hw1:IntKind.i64.wrap ((i:Int) - 1)=((i - 1:Nat):Int):=by rw [IntKind.wrap_i64];omega
      have HRU:=Lib.hid (show (settleT n i c).run s=((readT (n.kids.getD (i - 1) 0)).bind fun l=>if l.leaf=c.leaf then meetT n (i - 1) l c else .fail 30).run s by
       rw [HST.out,if_neg hsz,if_pos hi0])
      obtain ⟨j,hj⟩:∃ j,i - 1=j:=⟨_,rfl⟩
      rw [hj] at HRU hw1
      have hjl:j<n.kids.length:=by omega
      have hjk:j<n.keys.length:=by have:=HKL.out;omega
      have hjl2:j+1<n.kids.length:=by omega
      have hji:(j:Int)<(n.kids.length:Int):=by omega
      have hj0:(0:Int)≤(j:Int):=by omega
      have HJ:=Lib.hid hj
      clear hj
      obtain ⟨kd,hkd⟩:∃ x,n.kids[j]=x:=⟨_,rfl⟩
      have HKD:=Lib.hid hkd
      rw [show n.kids.getD (j) 0=kd by rw [List.getD_eq_getElem?_getD,List.getElem?_eq_getElem (by omega),← HKD.out];rfl] at HRU
      clear hkd
      obtain ⟨A1,c1,A2,c2,A3,c3,h0,k1,k2,k3,m1,m2,m3⟩:=HN3.out
      have H0:=Lib.hid h0
      have K1:=Lib.hid k1
      have K2:=Lib.hid k2
      have K3:=Lib.hid k3
      have M2:=Lib.hid m2
      have M3:=Lib.hid m3
      obtain ⟨n0,n1,n2,n3,n4⟩:=nd_cells h0
      obtain ⟨b,off,c',he,hbl,hcells⟩:=k3.sl.at1 (show j<n.kids.length from (by omega))
      injection he with he1 he2 he3
      subst he1 he3
      have e0:w3.cell? ⟨b,off+(j),none⟩=some (.int .i64 (n.kids[j]'(by omega))):=by simpa [iC] using hcells 0 _ rfl
      rw [HKD.out] at e0
      clear h0 k1 k2 k3 m1 m2 m3 hcells he2
      go_wp2_with fail
      refine (tread_any kd gs gm s w3 HS3.out).mono ?_
      rintro e w4 ⟨hp,hs,hc⟩
      have hrz:=readT_run_nz (a:=kd) (s:=s)
      obtain ⟨⟨s2,a⟩,hx⟩:∃ x,(readT kd).run s=x:=⟨_,rfl⟩
      rw [hx] at hp hs hrz
      have HS4:=Lib.hid hs
      have HN4:=Lib.hid (HN3.out.ch hc (fun k hk e=>by omega) (by omega))
      have HNF4:=Lib.hid (HNF3.out.ch hc (fun k hk e=>by omega))
      have HC4:=Lib.hid (show Ch (goT3 gs gm gn) w w4 from (Ch.of_below HBW.out).trans (ch2_3 hc))
      have HX4:=Lib.hid (hc.keep (blk_keep HX1.out HK3.out) (by omega))
      have hsz4:=hc.size
      have HX:=Lib.hid hx
      clear hs hc hx n0 n1 n2 n3 n4 e0 a0 a1 a2 a3 a4
      cases a with
      | err x=>
        obtain rfl:=hp
        have hx0:¬ x=0:=hrz x rfl
        have hx1:(x == 0)=false:=by simpa using hx0
        have HV:=Lib.hid (HRU.out.trans (run_bind_err HX.out))
        have HS5:=Lib.hid (HS4.out.ch (S:=fun _=>False) (Ch.alloc (Ch.refl _ w4) (ndB Nd.zero (.slice none 0 0) (.slice none 0 0) (.slice none 0 0))) id id)
        have HC5:=Lib.hid (Ch.alloc HC4.out (ndB Nd.zero (.slice none 0 0) (.slice none 0 0) (.slice none 0 0)))
        have HBD:=Lib.hid (show badI x=x by unfold badI;rw [if_neg hx0])
        simp only [ndZ]
        go_wp2_with fail
        refine (bad_any x _).mono ?_
        rw [HBD.out]
        rintro e w5 ⟨rfl,rfl⟩
        have HN5:=Lib.hid (HN4.out.keep ((Below.refl _ w4).alloc (Nat.le_refl _) (ndB Nd.zero (.slice none 0 0) (.slice none 0 0) (.slice none 0 0))))
        go_wp2_with fail
        go_ret
        rw [HV.out]
        exact ⟨⟨rfl,n,HN5.out⟩,HS5.out,HC5.out⟩
      | ok m=>
        obtain ⟨v,rfl,vk,vc,vd,rfl,y1,y2,y3,y4⟩:=hp
        obtain ⟨hg2,hsm2⟩:=ans_read HX.out
        have HGD:=Lib.hid hg2
        have HSM:=Lib.hid (hsm2.mono (show 229≤400 by decide))
        have HRV:=Lib.hid (HRU.out.trans (run_bind_ok HX.out))
        obtain ⟨L1,e1,rfl⟩:=y1.form
        obtain ⟨L2,e2,rfl⟩:=y2.form
        obtain ⟨L3,e3,rfl⟩:=y3.form
        have HMF:=Lib.hid (show NdF (gn+1) w4 (.agg #[.bool m.leaf,.slice L1 m.keys.length e1,.slice L2 m.cells.length e2,.slice L3 m.kids.length e3]) m from ⟨_,_,_,rfl,(y1.slf sC_len).mono (by omega),(y2.slf cC_len).mono (by omega),(y3.slf iC_len).mono (by omega)⟩)
        clear y1 y2 y3 y4 hg2 hsm2
        have HBA:=Lib.hid (show Below w4.heap.size w4 (w4.alloc (ndB m (.slice L1 m.keys.length e1) (.slice L2 m.cells.length e2) (.slice L3 m.kids.length e3))) from (Below.refl _ w4).alloc (Nat.le_refl _) _)
        have HM5:=Lib.hid (blk_new (w0:=w4) (g:=w4.heap.size) (o:=ndB m (.slice L1 m.keys.length e1) (.slice L2 m.cells.length e2) (.slice L3 m.kids.length e3)) rfl)
        go_upto_region 8 with fail
        generalize hw1:w4.alloc (.cells #[.bool m.leaf,.slice L1 m.keys.length e1,.slice L2 m.cells.length e2,.slice L3 m.kids.length e3] 110)=w5 at *
        have hw2:w4.alloc (ndB m (.slice L1 m.keys.length e1) (.slice L2 m.cells.length e2) (.slice L3 m.kids.length e3))=w5:=hw1
        rw [hw2] at HBA HM5
        clear hw1 hw2
        have HN5:=Lib.hid (HN4.out.keep HBA.out)
        have HS5:=Lib.hid (HS4.out.ch (S:=fun _=>False) (Ch.of_below HBA.out) id id)
        have HNF5:=Lib.hid (HNF4.out.keep HBA.out)
        have HMF5:=Lib.hid (HMF.out.keep HBA.out)
        have HC5:=Lib.hid (HC4.out.trans (Ch.of_below (S:=goT3 gs gm gn) HBA.out))
        have HX5:=Lib.hid (blk_keep HX4.out HBA.out)
        obtain ⟨a0,a1,a2,a3,a4⟩:=nd_cells HX5.out
        rw [HCL.out] at a0
        obtain ⟨p0,p1,p2,p3,p4⟩:=nd_cells HM5.out
        by_cases hml:m.leaf=c.leaf
        ·have HML:=Lib.hid hml
         have HV:=Lib.hid (HRV.out.trans (show ((if m.leaf=c.leaf then _ else _:Pro Nd)).run s2=_ by rw [if_pos hml]))
         rw [HCL.out] at hml
         rw [hml] at p0
         have HMT:=Lib.hid (meet_any n m c (j) B gs gm gn s2 _ _ w5 HS5.out HN5.out HMF5.out HNF5.out h1 h2 h3 (good_fit HGD.out) HFC.out (by first | exact HML.out | exact HML.out.symm) HSM.out HSC.out (HSN.out.mono (by decide)) hjk hjl2)
         rw [hml] at HMT
         unfold shV at HMT
         go_wp2_with fail
         refine HMT.out.mono ?_
         rintro e w6 ⟨hp,hs,hc⟩
         have HS6:=Lib.hid hs
         have HC6:=Lib.hid (HC5.out.trans hc)
         clear hs hc a0 a1 a2 a3 a4 p0 p1 p2 p3 p4 HMT
         obtain ⟨⟨s6,a⟩,hx⟩:∃ x,(meetT n (j) m c).run s2=x:=⟨_,rfl⟩
         rw [hx] at HS6 hp
         have HX6:=Lib.hid hx
         clear hx
         rcases a with q | x
         case ok=>
          obtain ⟨rfl,hp⟩:=hp
          have HP6:=Lib.hid hp
          clear hp
          go_wp2_with fail
          go_ret
          rw [HV.out,HX6.out]
          exact ⟨⟨rfl,HP6.out⟩,HS6.out,HC6.out⟩
         case err=>
          obtain ⟨rfl,q,hp⟩:=hp
          have HP6:=Lib.hid hp
          clear hp
          go_wp2_with fail
          go_ret
          rw [HV.out,HX6.out]
          exact ⟨⟨rfl,q,HP6.out⟩,HS6.out,HC6.out⟩
        ·have HV:=Lib.hid (HRV.out.trans (show ((if m.leaf=c.leaf then _ else Pro.fail 30:Pro Nd)).run s2=(s2,.err 30) by rw [if_neg hml];rfl))
         have hmb:(m.leaf == true)=false:=by
          rw [HCL.out] at hml
          cases hmx:m.leaf <;> first | rfl | exact absurd hmx hml
         have HBD:=Lib.hid (show badI 0=30 from rfl)
         clear hml
         go_wp2_with fail
         refine (bad_any 0 _).mono ?_
         rw [HBD.out]
         rintro e w6 ⟨rfl,rfl⟩
         go_wp2_with fail
         go_ret
         rw [HV.out]
         exact ⟨⟨rfl,n,HN5.out⟩,HS5.out,HC5.out⟩
     ·obtain rfl:i=0:=by omega
      have HRU:=Lib.hid (show (settleT n 0 c).run s=((readT (n.kids.getD 1 0)).bind fun r=>if r.leaf=c.leaf then meetT n 0 c r else .fail 30).run s by
       rw [HST.out,if_neg hsz,if_neg hi0])
      have hii:¬ ((0:Int)<((0:Nat):Int)):=by omega
      have hjk:0<n.keys.length:=hk0
      have hjl2:0+1<n.kids.length:=by have:=HKL.out;omega
      have hji:(1:Int)<(n.kids.length:Int):=by omega
      obtain ⟨kd,hkd⟩:∃ x,n.kids[1]=x:=⟨_,rfl⟩
      have HKD:=Lib.hid hkd
      rw [show n.kids.getD (1) 0=kd by rw [List.getD_eq_getElem?_getD,List.getElem?_eq_getElem (by omega),← HKD.out];rfl] at HRU
      clear hkd
      obtain ⟨A1,c1,A2,c2,A3,c3,h0,k1,k2,k3,m1,m2,m3⟩:=HN3.out
      have H0:=Lib.hid h0
      have K1:=Lib.hid k1
      have K2:=Lib.hid k2
      have K3:=Lib.hid k3
      have M2:=Lib.hid m2
      have M3:=Lib.hid m3
      obtain ⟨n0,n1,n2,n3,n4⟩:=nd_cells h0
      obtain ⟨b,off,c',he,hbl,hcells⟩:=k3.sl.at1 (show 1<n.kids.length from (by omega))
      injection he with he1 he2 he3
      subst he1 he3
      have e0:w3.cell? ⟨b,off+(1),none⟩=some (.int .i64 (n.kids[1]'(by omega))):=by simpa [iC] using hcells 0 _ rfl
      rw [HKD.out] at e0
      clear h0 k1 k2 k3 m1 m2 m3 hcells he2
      go_wp2_with fail
      refine (tread_any kd gs gm s w3 HS3.out).mono ?_
      rintro e w4 ⟨hp,hs,hc⟩
      have hrz:=readT_run_nz (a:=kd) (s:=s)
      obtain ⟨⟨s2,a⟩,hx⟩:∃ x,(readT kd).run s=x:=⟨_,rfl⟩
      rw [hx] at hp hs hrz
      have HS4:=Lib.hid hs
      have HN4:=Lib.hid (HN3.out.ch hc (fun k hk e=>by omega) (by omega))
      have HNF4:=Lib.hid (HNF3.out.ch hc (fun k hk e=>by omega))
      have HC4:=Lib.hid (show Ch (goT3 gs gm gn) w w4 from (Ch.of_below HBW.out).trans (ch2_3 hc))
      have HX4:=Lib.hid (hc.keep (blk_keep HX1.out HK3.out) (by omega))
      have hsz4:=hc.size
      have HX:=Lib.hid hx
      clear hs hc hx n0 n1 n2 n3 n4 e0 a0 a1 a2 a3 a4
      cases a with
      | err x=>
        obtain rfl:=hp
        have hx0:¬ x=0:=hrz x rfl
        have hx1:(x == 0)=false:=by simpa using hx0
        have HV:=Lib.hid (HRU.out.trans (run_bind_err HX.out))
        have HS5:=Lib.hid (HS4.out.ch (S:=fun _=>False) (Ch.alloc (Ch.refl _ w4) (ndB Nd.zero (.slice none 0 0) (.slice none 0 0) (.slice none 0 0))) id id)
        have HC5:=Lib.hid (Ch.alloc HC4.out (ndB Nd.zero (.slice none 0 0) (.slice none 0 0) (.slice none 0 0)))
        have HBD:=Lib.hid (show badI x=x by unfold badI;rw [if_neg hx0])
        simp only [ndZ]
        go_wp2_with fail
        refine (bad_any x _).mono ?_
        rw [HBD.out]
        rintro e w5 ⟨rfl,rfl⟩
        have HN5:=Lib.hid (HN4.out.keep ((Below.refl _ w4).alloc (Nat.le_refl _) (ndB Nd.zero (.slice none 0 0) (.slice none 0 0) (.slice none 0 0))))
        go_wp2_with fail
        go_ret
        rw [HV.out]
        exact ⟨⟨rfl,n,HN5.out⟩,HS5.out,HC5.out⟩
      | ok m=>
        obtain ⟨v,rfl,vk,vc,vd,rfl,y1,y2,y3,y4⟩:=hp
        obtain ⟨hg2,hsm2⟩:=ans_read HX.out
        have HGD:=Lib.hid hg2
        have HSM:=Lib.hid (hsm2.mono (show 229≤400 by decide))
        have HRV:=Lib.hid (HRU.out.trans (run_bind_ok HX.out))
        obtain ⟨L1,e1,rfl⟩:=y1.form
        obtain ⟨L2,e2,rfl⟩:=y2.form
        obtain ⟨L3,e3,rfl⟩:=y3.form
        have HMF:=Lib.hid (show NdF (gn+1) w4 (.agg #[.bool m.leaf,.slice L1 m.keys.length e1,.slice L2 m.cells.length e2,.slice L3 m.kids.length e3]) m from ⟨_,_,_,rfl,(y1.slf sC_len).mono (by omega),(y2.slf cC_len).mono (by omega),(y3.slf iC_len).mono (by omega)⟩)
        clear y1 y2 y3 y4 hg2 hsm2
        have HBA:=Lib.hid (show Below w4.heap.size w4 (w4.alloc (ndB m (.slice L1 m.keys.length e1) (.slice L2 m.cells.length e2) (.slice L3 m.kids.length e3))) from (Below.refl _ w4).alloc (Nat.le_refl _) _)
        have HM5:=Lib.hid (blk_new (w0:=w4) (g:=w4.heap.size) (o:=ndB m (.slice L1 m.keys.length e1) (.slice L2 m.cells.length e2) (.slice L3 m.kids.length e3)) rfl)
        go_upto_region 12 with fail
        generalize hw1:w4.alloc (.cells #[.bool m.leaf,.slice L1 m.keys.length e1,.slice L2 m.cells.length e2,.slice L3 m.kids.length e3] 110)=w5 at *
        have hw2:w4.alloc (ndB m (.slice L1 m.keys.length e1) (.slice L2 m.cells.length e2) (.slice L3 m.kids.length e3))=w5:=hw1
        rw [hw2] at HBA HM5
        clear hw1 hw2
        have HN5:=Lib.hid (HN4.out.keep HBA.out)
        have HS5:=Lib.hid (HS4.out.ch (S:=fun _=>False) (Ch.of_below HBA.out) id id)
        have HNF5:=Lib.hid (HNF4.out.keep HBA.out)
        have HMF5:=Lib.hid (HMF.out.keep HBA.out)
        have HC5:=Lib.hid (HC4.out.trans (Ch.of_below (S:=goT3 gs gm gn) HBA.out))
        have HX5:=Lib.hid (blk_keep HX4.out HBA.out)
        obtain ⟨a0,a1,a2,a3,a4⟩:=nd_cells HX5.out
        rw [HCL.out] at a0
        obtain ⟨p0,p1,p2,p3,p4⟩:=nd_cells HM5.out
        by_cases hml:m.leaf=c.leaf
        ·have HML:=Lib.hid hml
         have HV:=Lib.hid (HRV.out.trans (show ((if m.leaf=c.leaf then _ else _:Pro Nd)).run s2=_ by rw [if_pos hml]))
         rw [HCL.out] at hml
         rw [hml] at p0
         have HMT:=Lib.hid (meet_any n c m (0) B gs gm gn s2 _ _ w5 HS5.out HN5.out HNF5.out HMF5.out h1 h2 h3 HFC.out (good_fit HGD.out) (by first | exact HML.out | exact HML.out.symm) HSC.out HSM.out (HSN.out.mono (by decide)) hjk hjl2)
         rw [hml] at HMT
         unfold shV at HMT
         go_wp2_with fail
         refine HMT.out.mono ?_
         rintro e w6 ⟨hp,hs,hc⟩
         have HS6:=Lib.hid hs
         have HC6:=Lib.hid (HC5.out.trans hc)
         clear hs hc a0 a1 a2 a3 a4 p0 p1 p2 p3 p4 HMT
         obtain ⟨⟨s6,a⟩,hx⟩:∃ x,(meetT n (0) c m).run s2=x:=⟨_,rfl⟩
         rw [hx] at HS6 hp
         have HX6:=Lib.hid hx
         clear hx
         rcases a with q | x
         case ok=>
          obtain ⟨rfl,hp⟩:=hp
          have HP6:=Lib.hid hp
          clear hp
          go_wp2_with fail
          go_ret
          rw [HV.out,HX6.out]
          exact ⟨⟨rfl,HP6.out⟩,HS6.out,HC6.out⟩
         case err=>
          obtain ⟨rfl,q,hp⟩:=hp
          have HP6:=Lib.hid hp
          clear hp
          go_wp2_with fail
          go_ret
          rw [HV.out,HX6.out]
          exact ⟨⟨rfl,q,HP6.out⟩,HS6.out,HC6.out⟩
        ·have HV:=Lib.hid (HRV.out.trans (show ((if m.leaf=c.leaf then _ else Pro.fail 30:Pro Nd)).run s2=(s2,.err 30) by rw [if_neg hml];rfl))
         have hmb:(m.leaf == true)=false:=by
          rw [HCL.out] at hml
          cases hmx:m.leaf <;> first | rfl | exact absurd hmx hml
         have HBD:=Lib.hid (show badI 0=30 from rfl)
         clear hml
         go_wp2_with fail
         refine (bad_any 0 _).mono ?_
         rw [HBD.out]
         rintro e w6 ⟨rfl,rfl⟩
         go_wp2_with fail
         go_ret
         rw [HV.out]
         exact ⟨⟨rfl,n,HN5.out⟩,HS5.out,HC5.out⟩
  ·have HGR2:=Lib.hid (show greatN c=!true by rw [HGR.out,hcl,decide_eq_false hk];simp)
   have hk1:¬ ((0:Int)<(c.keys.length:Int)):=by omega
   have hk2:decide ((0:Int)<(c.keys.length:Int))=false:=decide_eq_false hk1
   have HK2:=Lib.hid (Below.refl w1.heap.size w1)
   go_wp2_with fail
   refine (HTS.out w1 HK2.out).mono ?_
   rintro e w3 ⟨rfl,hb⟩
   have HK3:=Lib.hid (HK2.out.trans (hb.mono HK2.out.size))
   clear hb a0 a1 a2 a3 a4
   obtain ⟨a0,a1,a2,a3,a4⟩:=nd_cells (blk_keep HX1.out HK3.out)
   rw [HCL.out] at a0
   have HBW:=Lib.hid (HBL.out.trans (HK3.out.mono HBL.out.size))
   have HN3:=Lib.hid (HN1.out.keep HK3.out)
   have HS3:=Lib.hid (HS1.out.ch (S:=fun _=>False) (Ch.of_below HK3.out) id id)
   have HNF3:=Lib.hid (HNF1.out.keep HK3.out)
   have HST:=Lib.hid (show settleT n i c=if 77≤tsize c then (writeT (n.kids.getD i 0) c).bind fun _=>.pure n
    else if 0<i then (readT (n.kids.getD (i - 1) 0)).bind fun l=>if l.leaf=c.leaf then meetT n (i - 1) l c else .fail 30
    else (readT (n.kids.getD 1 0)).bind fun r=>if r.leaf=c.leaf then meetT n 0 c r else .fail 30 by
    unfold settleT;rw [HGR2.out];rfl)
   have hgb:w.heap.size<w3.heap.size:=blk_lt (blk_keep HX1.out HK3.out)
   by_cases hsz:77≤tsize c
   ·have hsz1:(77:Int)≤(tsize c:Int):=by omega
    obtain ⟨kd,hkd⟩:∃ x,n.kids[i]=x:=⟨_,rfl⟩
    have HKD:=Lib.hid hkd
    have HRU:=Lib.hid (show (settleT n i c).run s=((writeT kd c).bind fun _=>.pure n).run s by
     rw [HST.out,if_pos hsz,List.getD_eq_getElem?_getD,List.getElem?_eq_getElem hi,← HKD.out];rfl)
    clear hkd
    obtain ⟨A1,c1,A2,c2,A3,c3,h0,k1,k2,k3,m1,m2,m3⟩:=HN3.out
    have H0:=Lib.hid h0
    have K1:=Lib.hid k1
    have K2:=Lib.hid k2
    have K3:=Lib.hid k3
    have M2:=Lib.hid m2
    have M3:=Lib.hid m3
    obtain ⟨n0,n1,n2,n3,n4⟩:=nd_cells h0
    obtain ⟨b,off,c',he,hbl,hcells⟩:=k3.sl.at1 (show i<n.kids.length from hi)
    injection he with he1 he2 he3
    subst he1 he3
    have e0:w3.cell? ⟨b,off+(i),none⟩=some (.int .i64 (n.kids[i]'hi)):=by simpa [iC] using hcells 0 _ rfl
    rw [HKD.out] at e0
    clear h0 k1 k2 k3 m1 m2 m3 hcells he2
    have hi0:(0:Int)≤(i:Int):=by omega
    have hi1:(i:Int)<(n.kids.length:Int):=by omega
    have HSD:=Lib.hid (HS3.out.ch (S:=fun _=>False) (Ch.refl _ w3).drew id id)
    have HRD:=Lib.hid ((HNF3.out.ch (S:=fun _=>False) (Ch.refl _ w3).drew (fun _ _=>id)).val)
    go_wp2_with fail
    go_region_law (first
     | (go_simp
        go_at_call 66
        refine (twrite_any kd c _ gs gm s w3.drew HSD.out HRD.out (HSC.out.bd (by decide))).mono ?_
        rintro e wf ⟨rfl,hs,hc⟩
        have HSf:=Lib.hid hs
        have HHf:=Lib.hid ((Ch.refl _ w3).drew.trans hc)
        clear hs hc))
    all_goals
     have HPf:=Lib.hid (HN3.out.ch HHf.out (fun k hk e=>by omega) (by omega))
     have HCf:=Lib.hid (show Ch (goT3 gs gm gn) w wf from (Ch.of_below HBW.out).trans (ch2_3 HHf.out))
     clear n0 n1 n2 n3 n4 e0 a0 a1 a2 a3 a4
     have hnz:=Pro.NZ.run (writeT kd c) s
     obtain ⟨⟨s6,a⟩,hx⟩:∃ x,(writeT kd c).run s=x:=⟨_,rfl⟩
     rw [hx] at HSf hnz ⊢
     rcases a with u | x
     case ok=>
      have HV:=Lib.hid (HRU.out.trans (run_bind_ok hx))
      simp only [errV]
      go_wp2_with fail
      go_ret
      rw [HV.out]
      exact ⟨⟨rfl,HPf.out⟩,HSf.out,HCf.out⟩
     case err=>
      have HV:=Lib.hid (HRU.out.trans (run_bind_err hx))
      simp only [errV]
      go_wp2_with fail
      go_ret
      rw [HV.out]
      exact ⟨⟨rfl,n,HPf.out⟩,HSf.out,HCf.out⟩
   ·have hsz1:¬ ((77:Int)≤(tsize c:Int)):=by omega
    by_cases hi0:0<i
    ·have hii:(0:Int)<(i:Int):=by omega
     have hw1:IntKind.i64.wrap ((i:Int) - 1)=((i - 1:Nat):Int):=by rw [IntKind.wrap_i64];omega
     have HRU:=Lib.hid (show (settleT n i c).run s=((readT (n.kids.getD (i - 1) 0)).bind fun l=>if l.leaf=c.leaf then meetT n (i - 1) l c else .fail 30).run s by
      rw [HST.out,if_neg hsz,if_pos hi0])
     obtain ⟨j,hj⟩:∃ j,i - 1=j:=⟨_,rfl⟩
     rw [hj] at HRU hw1
     have hjl:j<n.kids.length:=by omega
     have hjk:j<n.keys.length:=by have:=HKL.out;omega
     have hjl2:j+1<n.kids.length:=by omega
     have hji:(j:Int)<(n.kids.length:Int):=by omega
     have hj0:(0:Int)≤(j:Int):=by omega
     have HJ:=Lib.hid hj
     clear hj
     obtain ⟨kd,hkd⟩:∃ x,n.kids[j]=x:=⟨_,rfl⟩
     have HKD:=Lib.hid hkd
     rw [show n.kids.getD (j) 0=kd by rw [List.getD_eq_getElem?_getD,List.getElem?_eq_getElem (by omega),← HKD.out];rfl] at HRU
     clear hkd
     obtain ⟨A1,c1,A2,c2,A3,c3,h0,k1,k2,k3,m1,m2,m3⟩:=HN3.out
     have H0:=Lib.hid h0
     have K1:=Lib.hid k1
     have K2:=Lib.hid k2
     have K3:=Lib.hid k3
     have M2:=Lib.hid m2
     have M3:=Lib.hid m3
     obtain ⟨n0,n1,n2,n3,n4⟩:=nd_cells h0
     obtain ⟨b,off,c',he,hbl,hcells⟩:=k3.sl.at1 (show j<n.kids.length from (by omega))
     injection he with he1 he2 he3
     subst he1 he3
     have e0:w3.cell? ⟨b,off+(j),none⟩=some (.int .i64 (n.kids[j]'(by omega))):=by simpa [iC] using hcells 0 _ rfl
     rw [HKD.out] at e0
     clear h0 k1 k2 k3 m1 m2 m3 hcells he2
     go_wp2_with fail
     refine (tread_any kd gs gm s w3 HS3.out).mono ?_
     rintro e w4 ⟨hp,hs,hc⟩
     have hrz:=readT_run_nz (a:=kd) (s:=s)
     obtain ⟨⟨s2,a⟩,hx⟩:∃ x,(readT kd).run s=x:=⟨_,rfl⟩
     rw [hx] at hp hs hrz
     have HS4:=Lib.hid hs
     have HN4:=Lib.hid (HN3.out.ch hc (fun k hk e=>by omega) (by omega))
     have HNF4:=Lib.hid (HNF3.out.ch hc (fun k hk e=>by omega))
     have HC4:=Lib.hid (show Ch (goT3 gs gm gn) w w4 from (Ch.of_below HBW.out).trans (ch2_3 hc))
     have HX4:=Lib.hid (hc.keep (blk_keep HX1.out HK3.out) (by omega))
     have hsz4:=hc.size
     have HX:=Lib.hid hx
     clear hs hc hx n0 n1 n2 n3 n4 e0 a0 a1 a2 a3 a4
     cases a with
     | err x=>
       obtain rfl:=hp
       have hx0:¬ x=0:=hrz x rfl
       have hx1:(x == 0)=false:=by simpa using hx0
       have HV:=Lib.hid (HRU.out.trans (run_bind_err HX.out))
       have HS5:=Lib.hid (HS4.out.ch (S:=fun _=>False) (Ch.alloc (Ch.refl _ w4) (ndB Nd.zero (.slice none 0 0) (.slice none 0 0) (.slice none 0 0))) id id)
       have HC5:=Lib.hid (Ch.alloc HC4.out (ndB Nd.zero (.slice none 0 0) (.slice none 0 0) (.slice none 0 0)))
       have HBD:=Lib.hid (show badI x=x by unfold badI;rw [if_neg hx0])
       simp only [ndZ]
       go_wp2_with fail
       refine (bad_any x _).mono ?_
       rw [HBD.out]
       rintro e w5 ⟨rfl,rfl⟩
       have HN5:=Lib.hid (HN4.out.keep ((Below.refl _ w4).alloc (Nat.le_refl _) (ndB Nd.zero (.slice none 0 0) (.slice none 0 0) (.slice none 0 0))))
       go_wp2_with fail
       go_ret
       rw [HV.out]
       exact ⟨⟨rfl,n,HN5.out⟩,HS5.out,HC5.out⟩
     | ok m=>
       obtain ⟨v,rfl,vk,vc,vd,rfl,y1,y2,y3,y4⟩:=hp
       obtain ⟨hg2,hsm2⟩:=ans_read HX.out
       have HGD:=Lib.hid hg2
       have HSM:=Lib.hid (hsm2.mono (show 229≤400 by decide))
       have HRV:=Lib.hid (HRU.out.trans (run_bind_ok HX.out))
       obtain ⟨L1,e1,rfl⟩:=y1.form
       obtain ⟨L2,e2,rfl⟩:=y2.form
       obtain ⟨L3,e3,rfl⟩:=y3.form
       have HMF:=Lib.hid (show NdF (gn+1) w4 (.agg #[.bool m.leaf,.slice L1 m.keys.length e1,.slice L2 m.cells.length e2,.slice L3 m.kids.length e3]) m from ⟨_,_,_,rfl,(y1.slf sC_len).mono (by omega),(y2.slf cC_len).mono (by omega),(y3.slf iC_len).mono (by omega)⟩)
       clear y1 y2 y3 y4 hg2 hsm2
       have HBA:=Lib.hid (show Below w4.heap.size w4 (w4.alloc (ndB m (.slice L1 m.keys.length e1) (.slice L2 m.cells.length e2) (.slice L3 m.kids.length e3))) from (Below.refl _ w4).alloc (Nat.le_refl _) _)
       have HM5:=Lib.hid (blk_new (w0:=w4) (g:=w4.heap.size) (o:=ndB m (.slice L1 m.keys.length e1) (.slice L2 m.cells.length e2) (.slice L3 m.kids.length e3)) rfl)
       go_upto_region 8 with fail
       generalize hw1:w4.alloc (.cells #[.bool m.leaf,.slice L1 m.keys.length e1,.slice L2 m.cells.length e2,.slice L3 m.kids.length e3] 110)=w5 at *
       have hw2:w4.alloc (ndB m (.slice L1 m.keys.length e1) (.slice L2 m.cells.length e2) (.slice L3 m.kids.length e3))=w5:=hw1
       rw [hw2] at HBA HM5
       clear hw1 hw2
       have HN5:=Lib.hid (HN4.out.keep HBA.out)
       have HS5:=Lib.hid (HS4.out.ch (S:=fun _=>False) (Ch.of_below HBA.out) id id)
       have HNF5:=Lib.hid (HNF4.out.keep HBA.out)
       have HMF5:=Lib.hid (HMF.out.keep HBA.out)
       have HC5:=Lib.hid (HC4.out.trans (Ch.of_below (S:=goT3 gs gm gn) HBA.out))
       have HX5:=Lib.hid (blk_keep HX4.out HBA.out)
       obtain ⟨a0,a1,a2,a3,a4⟩:=nd_cells HX5.out
       rw [HCL.out] at a0
       obtain ⟨p0,p1,p2,p3,p4⟩:=nd_cells HM5.out
       by_cases hml:m.leaf=c.leaf
       ·have HML:=Lib.hid hml
        have HV:=Lib.hid (HRV.out.trans (show ((if m.leaf=c.leaf then _ else _:Pro Nd)).run s2=_ by rw [if_pos hml]))
        rw [HCL.out] at hml
        rw [hml] at p0
        have HMT:=Lib.hid (meet_any n m c (j) B gs gm gn s2 _ _ w5 HS5.out HN5.out HMF5.out HNF5.out h1 h2 h3 (good_fit HGD.out) HFC.out (by first | exact HML.out | exact HML.out.symm) HSM.out HSC.out (HSN.out.mono (by decide)) hjk hjl2)
        rw [hml] at HMT
        unfold shV at HMT
        go_wp2_with fail
        refine HMT.out.mono ?_
        rintro e w6 ⟨hp,hs,hc⟩
        have HS6:=Lib.hid hs
        have HC6:=Lib.hid (HC5.out.trans hc)
        clear hs hc a0 a1 a2 a3 a4 p0 p1 p2 p3 p4 HMT
        obtain ⟨⟨s6,a⟩,hx⟩:∃ x,(meetT n (j) m c).run s2=x:=⟨_,rfl⟩
        rw [hx] at HS6 hp
        have HX6:=Lib.hid hx
        clear hx
        rcases a with q | x
        case ok=>
         obtain ⟨rfl,hp⟩:=hp
         have HP6:=Lib.hid hp
         clear hp
         go_wp2_with fail
         go_ret
         rw [HV.out,HX6.out]
         exact ⟨⟨rfl,HP6.out⟩,HS6.out,HC6.out⟩
        case err=>
         obtain ⟨rfl,q,hp⟩:=hp
         have HP6:=Lib.hid hp
         clear hp
         go_wp2_with fail
         go_ret
         rw [HV.out,HX6.out]
         exact ⟨⟨rfl,q,HP6.out⟩,HS6.out,HC6.out⟩
       ·have HV:=Lib.hid (HRV.out.trans (show ((if m.leaf=c.leaf then _ else Pro.fail 30:Pro Nd)).run s2=(s2,.err 30) by rw [if_neg hml];rfl))
        have hmb:(m.leaf == true)=false:=by
         rw [HCL.out] at hml
         cases hmx:m.leaf <;> first | rfl | exact absurd hmx hml
        have HBD:=Lib.hid (show badI 0=30 from rfl)
        clear hml
        go_wp2_with fail
        refine (bad_any 0 _).mono ?_
        rw [HBD.out]
        rintro e w6 ⟨rfl,rfl⟩
        go_wp2_with fail
        go_ret
        rw [HV.out]
        exact ⟨⟨rfl,n,HN5.out⟩,HS5.out,HC5.out⟩
    ·obtain rfl:i=0:=by omega
     have HRU:=Lib.hid (show (settleT n 0 c).run s=((readT (n.kids.getD 1 0)).bind fun r=>if r.leaf=c.leaf then meetT n 0 c r else .fail 30).run s by
      rw [HST.out,if_neg hsz,if_neg hi0])
     have hii:¬ ((0:Int)<((0:Nat):Int)):=by omega
     have hjk:0<n.keys.length:=hk0
     have hjl2:0+1<n.kids.length:=by have:=HKL.out;omega
     have hji:(1:Int)<(n.kids.length:Int):=by omega
     obtain ⟨kd,hkd⟩:∃ x,n.kids[1]=x:=⟨_,rfl⟩
     have HKD:=Lib.hid hkd
     rw [show n.kids.getD (1) 0=kd by rw [List.getD_eq_getElem?_getD,List.getElem?_eq_getElem (by omega),← HKD.out];rfl] at HRU
     clear hkd
     obtain ⟨A1,c1,A2,c2,A3,c3,h0,k1,k2,k3,m1,m2,m3⟩:=HN3.out
     have H0:=Lib.hid h0
     have K1:=Lib.hid k1
     have K2:=Lib.hid k2
     have K3:=Lib.hid k3
     have M2:=Lib.hid m2
     have M3:=Lib.hid m3
     obtain ⟨n0,n1,n2,n3,n4⟩:=nd_cells h0
     obtain ⟨b,off,c',he,hbl,hcells⟩:=k3.sl.at1 (show 1<n.kids.length from (by omega))
     injection he with he1 he2 he3
     subst he1 he3
     have e0:w3.cell? ⟨b,off+(1),none⟩=some (.int .i64 (n.kids[1]'(by omega))):=by simpa [iC] using hcells 0 _ rfl
     rw [HKD.out] at e0
     clear h0 k1 k2 k3 m1 m2 m3 hcells he2
     go_wp2_with fail
     refine (tread_any kd gs gm s w3 HS3.out).mono ?_
     rintro e w4 ⟨hp,hs,hc⟩
     have hrz:=readT_run_nz (a:=kd) (s:=s)
     obtain ⟨⟨s2,a⟩,hx⟩:∃ x,(readT kd).run s=x:=⟨_,rfl⟩
     rw [hx] at hp hs hrz
     have HS4:=Lib.hid hs
     have HN4:=Lib.hid (HN3.out.ch hc (fun k hk e=>by omega) (by omega))
     have HNF4:=Lib.hid (HNF3.out.ch hc (fun k hk e=>by omega))
     have HC4:=Lib.hid (show Ch (goT3 gs gm gn) w w4 from (Ch.of_below HBW.out).trans (ch2_3 hc))
     have HX4:=Lib.hid (hc.keep (blk_keep HX1.out HK3.out) (by omega))
     have hsz4:=hc.size
     have HX:=Lib.hid hx
     clear hs hc hx n0 n1 n2 n3 n4 e0 a0 a1 a2 a3 a4
     cases a with
     | err x=>
       obtain rfl:=hp
       have hx0:¬ x=0:=hrz x rfl
       have hx1:(x == 0)=false:=by simpa using hx0
       have HV:=Lib.hid (HRU.out.trans (run_bind_err HX.out))
       have HS5:=Lib.hid (HS4.out.ch (S:=fun _=>False) (Ch.alloc (Ch.refl _ w4) (ndB Nd.zero (.slice none 0 0) (.slice none 0 0) (.slice none 0 0))) id id)
       have HC5:=Lib.hid (Ch.alloc HC4.out (ndB Nd.zero (.slice none 0 0) (.slice none 0 0) (.slice none 0 0)))
       have HBD:=Lib.hid (show badI x=x by unfold badI;rw [if_neg hx0])
       simp only [ndZ]
       go_wp2_with fail
       refine (bad_any x _).mono ?_
       rw [HBD.out]
       rintro e w5 ⟨rfl,rfl⟩
       have HN5:=Lib.hid (HN4.out.keep ((Below.refl _ w4).alloc (Nat.le_refl _) (ndB Nd.zero (.slice none 0 0) (.slice none 0 0) (.slice none 0 0))))
       go_wp2_with fail
       go_ret
       rw [HV.out]
       exact ⟨⟨rfl,n,HN5.out⟩,HS5.out,HC5.out⟩
     | ok m=>
       obtain ⟨v,rfl,vk,vc,vd,rfl,y1,y2,y3,y4⟩:=hp
       obtain ⟨hg2,hsm2⟩:=ans_read HX.out
       have HGD:=Lib.hid hg2
       have HSM:=Lib.hid (hsm2.mono (show 229≤400 by decide))
       have HRV:=Lib.hid (HRU.out.trans (run_bind_ok HX.out))
       obtain ⟨L1,e1,rfl⟩:=y1.form
       obtain ⟨L2,e2,rfl⟩:=y2.form
       obtain ⟨L3,e3,rfl⟩:=y3.form
       have HMF:=Lib.hid (show NdF (gn+1) w4 (.agg #[.bool m.leaf,.slice L1 m.keys.length e1,.slice L2 m.cells.length e2,.slice L3 m.kids.length e3]) m from ⟨_,_,_,rfl,(y1.slf sC_len).mono (by omega),(y2.slf cC_len).mono (by omega),(y3.slf iC_len).mono (by omega)⟩)
       clear y1 y2 y3 y4 hg2 hsm2
       have HBA:=Lib.hid (show Below w4.heap.size w4 (w4.alloc (ndB m (.slice L1 m.keys.length e1) (.slice L2 m.cells.length e2) (.slice L3 m.kids.length e3))) from (Below.refl _ w4).alloc (Nat.le_refl _) _)
       have HM5:=Lib.hid (blk_new (w0:=w4) (g:=w4.heap.size) (o:=ndB m (.slice L1 m.keys.length e1) (.slice L2 m.cells.length e2) (.slice L3 m.kids.length e3)) rfl)
       go_upto_region 12 with fail
       generalize hw1:w4.alloc (.cells #[.bool m.leaf,.slice L1 m.keys.length e1,.slice L2 m.cells.length e2,.slice L3 m.kids.length e3] 110)=w5 at *
       have hw2:w4.alloc (ndB m (.slice L1 m.keys.length e1) (.slice L2 m.cells.length e2) (.slice L3 m.kids.length e3))=w5:=hw1
       rw [hw2] at HBA HM5
       clear hw1 hw2
       have HN5:=Lib.hid (HN4.out.keep HBA.out)
       have HS5:=Lib.hid (HS4.out.ch (S:=fun _=>False) (Ch.of_below HBA.out) id id)
       have HNF5:=Lib.hid (HNF4.out.keep HBA.out)
       have HMF5:=Lib.hid (HMF.out.keep HBA.out)
       have HC5:=Lib.hid (HC4.out.trans (Ch.of_below (S:=goT3 gs gm gn) HBA.out))
       have HX5:=Lib.hid (blk_keep HX4.out HBA.out)
       obtain ⟨a0,a1,a2,a3,a4⟩:=nd_cells HX5.out
       rw [HCL.out] at a0
       obtain ⟨p0,p1,p2,p3,p4⟩:=nd_cells HM5.out
       by_cases hml:m.leaf=c.leaf
       ·have HML:=Lib.hid hml
        have HV:=Lib.hid (HRV.out.trans (show ((if m.leaf=c.leaf then _ else _:Pro Nd)).run s2=_ by rw [if_pos hml]))
        rw [HCL.out] at hml
        rw [hml] at p0
        have HMT:=Lib.hid (meet_any n c m (0) B gs gm gn s2 _ _ w5 HS5.out HN5.out HNF5.out HMF5.out h1 h2 h3 HFC.out (good_fit HGD.out) (by first | exact HML.out | exact HML.out.symm) HSC.out HSM.out (HSN.out.mono (by decide)) hjk hjl2)
        rw [hml] at HMT
        unfold shV at HMT
        go_wp2_with fail
        refine HMT.out.mono ?_
        rintro e w6 ⟨hp,hs,hc⟩
        have HS6:=Lib.hid hs
        have HC6:=Lib.hid (HC5.out.trans hc)
        clear hs hc a0 a1 a2 a3 a4 p0 p1 p2 p3 p4 HMT
        obtain ⟨⟨s6,a⟩,hx⟩:∃ x,(meetT n (0) c m).run s2=x:=⟨_,rfl⟩
        rw [hx] at HS6 hp
        have HX6:=Lib.hid hx
        clear hx
        rcases a with q | x
        case ok=>
         obtain ⟨rfl,hp⟩:=hp
         have HP6:=Lib.hid hp
         clear hp
         go_wp2_with fail
         go_ret
         rw [HV.out,HX6.out]
         exact ⟨⟨rfl,HP6.out⟩,HS6.out,HC6.out⟩
        case err=>
         obtain ⟨rfl,q,hp⟩:=hp
         have HP6:=Lib.hid hp
         clear hp
         go_wp2_with fail
         go_ret
         rw [HV.out,HX6.out]
         exact ⟨⟨rfl,q,HP6.out⟩,HS6.out,HC6.out⟩
       ·have HV:=Lib.hid (HRV.out.trans (show ((if m.leaf=c.leaf then _ else Pro.fail 30:Pro Nd)).run s2=(s2,.err 30) by rw [if_neg hml];rfl))
        have hmb:(m.leaf == true)=false:=by
         rw [HCL.out] at hml
         cases hmx:m.leaf <;> first | rfl | exact absurd hmx hml
        have HBD:=Lib.hid (show badI 0=30 from rfl)
        clear hml
        go_wp2_with fail
        refine (bad_any 0 _).mono ?_
        rw [HBD.out]
        rintro e w6 ⟨rfl,rfl⟩
        go_wp2_with fail
        go_ret
        rw [HV.out]
        exact ⟨⟨rfl,n,HN5.out⟩,HS5.out,HC5.out⟩
end Go.Proofs.YtknioodagnjchaaGreatDoor
