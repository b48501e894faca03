/- tree.alter with what Put does. -/
import Derived.Test.YtknioodagnjchaaGreatDoorVTAltD
import Derived.Test.YtknioodagnjchaaGreatDoorVTPut2
set_option maxRecDepth 100000
set_option maxHeartbeats 8000000
namespace Go.Proofs.YtknioodagnjchaaGreatDoor
open Go.RowKit
theorem putLeaf_nz (k v:By) (n:Nd):(putLeaf k v n).NZ:=by
 unfold putLeaf
 split
 ·exact Pro.NZ.bind _ _ (dropcT_nz _) (fun _=>Pro.NZ.bind _ _ (cellT_nz _) (fun _=>trivial))
 ·exact Pro.NZ.bind _ _ (cellT_nz _) (fun _=>trivial)
theorem alterP_any (k vl:By) (g1 g2 g3 gs gm:Nat) (hkl:k.length≤64) (hvl:vl.length≤1000000) (f:Nat) (at_:Int) (s:Sf) (w:World) (hf:f≤19) (hS:ShIs w gs gm s) (hC:CapP w.heap.size g1 g2 g3 gs gm k vl w)
  (ih:∀ f',f'+1=f→∀ (at_:Int) (s:Sf) (w:World),ShIs w gs gm s→CapP w.heap.size g1 g2 g3 gs gm k vl w→Calls Tryz.prog 121 #[shV gs,.int .i64 at_,.int .i64 (20 - f':Int),.string (mkS k),.func (.func 68) #[] #[.pointer (some ⟨g1,0,none⟩),.pointer (some ⟨g2,0,none⟩),.pointer (some ⟨g3,0,none⟩)]] w fun e w'=>AltP w.heap.size w' e ((alterT (putLeaf k vl) k f' at_).run s).2∧ShIs w' gs gm ((alterT (putLeaf k vl) k f' at_).run s).1∧Ch (fun k=>k=gs∨k=gm) w w'):
   Calls Tryz.prog 121 #[shV gs,.int .i64 at_,.int .i64 (20 - f:Int),.string (mkS k),.func (.func 68) #[] #[.pointer (some ⟨g1,0,none⟩),.pointer (some ⟨g2,0,none⟩),.pointer (some ⟨g3,0,none⟩)]] w fun e w'=>AltP w.heap.size w' e ((alterT (putLeaf k vl) k f at_).run s).2∧ShIs w' gs gm ((alterT (putLeaf k vl) k f at_).run s).1∧Ch (fun k=>k=gs∨k=gm) w w':=by
 have HA:=Lib.hid (hS.ch (S:=fun _=>False) (Ch.alloc (Ch.refl _ w) (ndB Nd.zero (.slice none 0 0) (.slice none 0 0) (.slice none 0 0))) id id)
 have HZ:=Lib.hid (blk_new (w0:=w) (g:=w.heap.size) (o:=ndB Nd.zero (.slice none 0 0) (.slice none 0 0) (.slice none 0 0)) rfl)
 have HC:=Lib.hid (Ch.alloc (Ch.refl (fun k=>k=gs∨k=gm) w) (ndB Nd.zero (.slice none 0 0) (.slice none 0 0) (.slice none 0 0)))
 have HCP:=Lib.hid (hC.ch (S:=fun _=>False) (Ch.alloc (Ch.refl _ w) (ndB Nd.zero (.slice none 0 0) (.slice none 0 0) (.slice none 0 0))) id id id)
 have hs1:w.heap.size<(w.alloc (ndB Nd.zero (.slice none 0 0) (.slice none 0 0) (.slice none 0 0))).heap.size:=by simp
 have hgs:=blk_lt hS.blk
 have hgm:=hS.book.lt
 have HRT:=Lib.hid (show (alterT (putLeaf k vl) k f at_).run s=((readT at_).bind (altK (putLeaf k vl) k f)).run s by rw [alterT_eq])
 have HIH:=Lib.hid ih
 have HNE:=Lib.hid (show (g1≠gs∧g1≠gm∧g2≠gs∧g2≠gm)∧g3≠gs∧g3≠gm from ⟨⟨hC.c.n1,hC.c.n2,hC.c.n3,hC.c.n4⟩,hC.n5,hC.n6⟩)
 clear hS hC ih
 generalize hlv:(20 - (f:Int))=lv at *
 have HLV:=Lib.hid hlv
 have hlv0:1≤lv:=by omega
 have hlv1:lv≤20:=by omega
 clear hlv
 unfold shV
 go_enter Tryz.func121,Tryz.ntmps121
 go_upto_region 1 with fail
 generalize hw1:w.alloc (.cells #[.bool false,.slice none 0 0,.slice none 0 0,.slice none 0 0] 110)=w1 at *
 have hw2:w.alloc (ndB Nd.zero (.slice none 0 0) (.slice none 0 0) (.slice none 0 0))=w1:=hw1
 rw [hw2] at HA HZ HC HCP hs1
 clear hw1 hw2
 go_wp2_with fail
 refine (tread_any at_ gs gm s w1 HA.out).mono ?_
 rintro e w2 ⟨hp,hs,hc⟩
 have hrz:=readT_run_nz (a:=at_) (s:=s)
 obtain ⟨⟨s2,a⟩,hx⟩:∃ x,(readT at_).run s=x:=⟨_,rfl⟩
 rw [hx] at hp hs hrz
 have HS2:=Lib.hid hs
 have HC2:=Lib.hid (HC.out.trans hc)
 have HZ2:=Lib.hid (hc.keep HZ.out (by omega))
 have HCP2:=Lib.hid (HCP.out.ch hc (fun e=>e.elim HNE.out.1.1 HNE.out.1.2.1) (fun e=>e.elim HNE.out.1.2.2.1 HNE.out.1.2.2.2) (fun e=>e.elim HNE.out.2.1 HNE.out.2.2))
 have hsz2:=hc.size
 have HX:=Lib.hid hx
 clear hs hc hx HA HZ HC HCP
 cases a with
 | err x=>
   obtain rfl:=hp
   have hx0:¬ x=0:=hrz x rfl
   have hx1:(x == 0)=false:=by simpa using hx0
   have HV:=Lib.hid (HRT.out.trans (run_bind_err HX.out))
   have HZ3:=Lib.hid (blk_alloc HZ2.out (ndB Nd.zero (.slice none 0 0) (.slice none 0 0) (.slice none 0 0)))
   have HS3:=Lib.hid (HS2.out.ch (S:=fun _=>False) (Ch.alloc (Ch.refl _ w2) (ndB Nd.zero (.slice none 0 0) (.slice none 0 0) (.slice none 0 0))) id id)
   have HC3:=Lib.hid (Ch.alloc HC2.out (ndB Nd.zero (.slice none 0 0) (.slice none 0 0) (.slice none 0 0)))
   have HN3:=Lib.hid (blk_new (w0:=w2) (g:=w2.heap.size) (o:=ndB Nd.zero (.slice none 0 0) (.slice none 0 0) (.slice none 0 0)) rfl)
   simp only [ndZ]
   go_upto_region 2 with fail
   generalize hw1:w2.alloc (.cells #[.bool false,.slice none 0 0,.slice none 0 0,.slice none 0 0] 110)=w3 at *
   have hw2:w2.alloc (ndB Nd.zero (.slice none 0 0) (.slice none 0 0) (.slice none 0 0))=w3:=hw1
   rw [hw2] at HZ3 HS3 HC3 HN3
   clear hw1 hw2
   obtain ⟨n0,n1,n2,n3,n4⟩:=nd_cells HN3.out
   obtain ⟨o0,o1,o2,o3,o4⟩:=nd_cells HZ3.out
   have fo:=blk_frozen HZ3.out
   simp only [Nd.zero] at n0 o0
   go_wp2_with fail
   clear n0 n1 n2 n3 o0 o1 o2 o3 fo
   have hf:=set4 HZ3.out false (.slice none 0 0) (.slice none 0 0) (.slice none 0 0)
   have hc:=set4_ch w3 w.heap.size (.bool false) (.slice none 0 0) (.slice none 0 0) (.slice none 0 0)
   obtain ⟨z0,z1,z2,z3,-⟩:=nd_cells hf
   simp only at z0
   refine bodyPost_ret (v:=.tuple #[.agg #[.bool false,(.slice none 0 0),(.slice none 0 0),(.slice none 0 0)],.bool false,.int .i64 x]) (by simp [results,Tryz.results121,go_sem,z0,z1,z2,z3]) rfl ?_
   rw [HV.out]
   exact ⟨⟨_,_,rfl,⟨Nd.zero,none,0,0,none,0,0,none,0,0,rfl⟩⟩,HS3.out.ch hc (by omega) (by omega),HC3.out.then hc (fun i hi=>.inr (by omega))⟩
 | ok n=>
   obtain ⟨v,rfl,vk,vc,vd,rfl,y1,y2,y3,d1,d2,d3⟩:=hp
   obtain ⟨hg,hsm⟩:=ans_read HX.out
   have HGD:=Lib.hid hg
   have HSM:=Lib.hid hsm
   have HFT:=Lib.hid (good_fit hg)
   have HRV:=Lib.hid (HRT.out.trans (run_bind_ok HX.out))
   obtain ⟨A1,c1,rfl⟩:=y1.form
   obtain ⟨A2,c2,rfl⟩:=y2.form
   obtain ⟨A3,c3,rfl⟩:=y3.form
   have HLF:=Lib.hid (show Lf w1.heap.size w2.heap.size n (w2.alloc (ndB n (.slice A1 n.keys.length c1) (.slice A2 n.cells.length c2) (.slice A3 n.kids.length c3))) from
    ⟨_,_,_,blk_new rfl,y1.alloc _,y2.alloc _,y3.alloc _,d1,d2,d3,fun k hk e=>by have:=(y1.lt k hk).2;omega,fun k hk e=>by have:=(y2.lt k hk).2;omega,fun k hk e=>by have:=(y3.lt k hk).2;omega⟩)
   have HB3:=Lib.hid (show Below w2.heap.size w2 (w2.alloc (ndB n (.slice A1 n.keys.length c1) (.slice A2 n.cells.length c2) (.slice A3 n.kids.length c3))) from (Below.refl _ w2).alloc (Nat.le_refl _) _)
   have HX3:=Lib.hid (blk_new (w0:=w2) (g:=w2.heap.size) (o:=ndB n (.slice A1 n.keys.length c1) (.slice A2 n.cells.length c2) (.slice A3 n.kids.length c3)) rfl)
   have HNF:=Lib.hid (show NdF w1.heap.size w2 (.agg #[.bool n.leaf,.slice A1 n.keys.length c1,.slice A2 n.cells.length c2,.slice A3 n.kids.length c3]) n from ⟨_,_,_,rfl,y1.slf sC_len,y2.slf cC_len,y3.slf iC_len⟩)
   have M1:=Lib.hid (show Ne (.slice A1 n.keys.length c1) w2.heap.size from fun k hk e=>by have:=(y1.lt k hk).2;omega)
   have M2:=Lib.hid (show Ne (.slice A2 n.cells.length c2) w2.heap.size from fun k hk e=>by have:=(y2.lt k hk).2;omega)
   have M3:=Lib.hid (show Ne (.slice A3 n.kids.length c3) w2.heap.size from fun k hk e=>by have:=(y3.lt k hk).2;omega)
   clear y1 y2 y3 d1 d2 d3 hg hsm hrz
   go_upto_region 2 with fail
   generalize hw1:w2.alloc (.cells #[.bool n.leaf,.slice A1 n.keys.length c1,.slice A2 n.cells.length c2,.slice A3 n.kids.length c3] 110)=w3 at *
   have hw2:w2.alloc (ndB n (.slice A1 n.keys.length c1) (.slice A2 n.cells.length c2) (.slice A3 n.kids.length c3))=w3:=hw1
   rw [hw2] at HLF HB3 HX3
   clear hw1 hw2
   have HZ3:=Lib.hid (blk_keep HZ2.out HB3.out)
   have HS3:=Lib.hid (HS2.out.ch (S:=fun _=>False) (Ch.of_below HB3.out) id id)
   have HC3:=Lib.hid (HC2.out.trans (Ch.of_below HB3.out))
   have HCP3:=Lib.hid (HCP2.out.ch (S:=fun _=>False) (Ch.of_below HB3.out) id id id)
   have hgn:=HLF.out.lt
   obtain ⟨n0,n1,n2,n3,n4⟩:=nd_cells HX3.out
   cases hl:n.leaf
   ·
    rw [hl] at n0
    have HNF3:=Lib.hid (HNF.out.keep HB3.out)
    have HPN:=Lib.hid (show PN w1.heap.size w2.heap.size n w3 by
     obtain ⟨vk,vc,vd,ee,s1,s2,s3⟩:=HNF3.out
     injection ee with ee
     obtain ⟨r1,r2,r3⟩:=agg4 ee
     subst r1 r2 r3
     exact PN.mk' HX3.out s1 s2 s3 M1.out M2.out M3.out)
    have HHL:=Lib.hid hl
    clear HLF M1 M2 M3
    cases f with
    | zero=>
      have HW:=Lib.hid (HRV.out.trans (show (altK (putLeaf k vl) k 0 n).run s2=(s2,.err 30) by unfold altK;rw [hl];rfl))
      have hlv2:(lv == 20)=true:=by have:=HLV.out;simp;omega
      obtain ⟨o0,o1,o2,o3,o4⟩:=nd_cells HZ3.out
      have fo:=blk_frozen HZ3.out
      simp only [Nd.zero] at o0
      clear hl
      go_wp2_with fail
      clear n0 n1 n2 n3 n4 o0 o1 o2 o3 o4 fo
      have hf:=set4 HZ3.out false (.slice A1 n.keys.length c1) (.slice A2 n.cells.length c2) (.slice A3 n.kids.length c3)
      have hc:=set4_ch w3 w.heap.size (.bool false) (.slice A1 n.keys.length c1) (.slice A2 n.cells.length c2) (.slice A3 n.kids.length c3)
      obtain ⟨z0,z1,z2,z3,-⟩:=nd_cells hf
      simp only at z0
      refine bodyPost_ret (v:=.tuple #[.agg #[.bool false,(.slice A1 n.keys.length c1),(.slice A2 n.cells.length c2),(.slice A3 n.kids.length c3)],.bool false,.int .i64 30]) (by simp [results,Tryz.results121,go_sem,z0,z1,z2,z3]) rfl ?_
      rw [HW.out]
      exact ⟨⟨_,_,rfl,⟨⟨false,[],[],[]⟩,_,_,_,_,_,_,_,_,_,rfl⟩⟩,HS3.out.ch hc (by omega) (by omega),HC3.out.then hc (fun i hi=>.inr (by omega))⟩
    | succ f=>
      have hlv2:(lv == 20)=false:=by have:=HLV.out;simp;omega
      have HRW:=Lib.hid (HRV.out.trans (show (altK (putLeaf k vl) k (f+1) n).run s2=((alterT (putLeaf k vl) k f (n.kids.getD (kidN n k) 0)).bind (altO n k)).run s2 by unfold altK;rw [hl];rfl))
      obtain ⟨i1,i2,i3,i4,i5,i6⟩:=goodN_inner HGD.out hl
      have hkn:kidN n k<n.kids.length:=by
       have h1:=lb_le n k
       unfold kidN
       split
       ·rename_i hi
        have:=(is_spec hi).1
        omega
       ·omega
      have hk0:0<n.keys.length:=List.length_pos_iff.2 i2
      have HKD:=Lib.hid (kid_any n k _ w3 HNF3.out.val (HSM.out.bd (by decide)) HGD.out)
      rw [hl] at HKD
      clear i1 i2 i3 i4 i5 i6 hl
      go_wp2_with fail
      refine HKD.out.mono ?_
      rintro e w4 ⟨rfl,hb⟩
      have HX4:=Lib.hid (blk_keep HX3.out hb)
      have HZ4:=Lib.hid (blk_keep HZ3.out hb)
      have HS4:=Lib.hid (HS3.out.ch (S:=fun _=>False) (Ch.of_below hb) id id)
      have HC4:=Lib.hid (HC3.out.trans (Ch.of_below hb))
      have HCP4:=Lib.hid (HCP3.out.ch (S:=fun _=>False) (Ch.of_below hb) id id id)
      have HPN4:=Lib.hid (HPN.out.keep hb)
      have HNF4:=Lib.hid (HNF3.out.keep hb)
      have hsz4:=hb.size
      clear hb n0 n1 n2 n3 n4 HX3 HZ3 HS3 HC3 HCP3 HPN HNF3 HKD
      obtain ⟨n0,n1,n2,n3,n4⟩:=nd_cells HX4.out
      rw [HHL.out] at n0
      have HKS:=Lib.hid (show Sl iC 1 w4 (.slice A3 n.kids.length c3) n.kids by
       obtain ⟨vk,vc,vd,ee,s1,s2,s3⟩:=HNF4.out
       injection ee with ee
       obtain ⟨r1,r2,r3⟩:=agg4 ee
       subst r1 r2 r3
       exact s3.sl)
      obtain ⟨b,off,c',he,hbl,hcells⟩:=HKS.out.at1 hkn
      injection he with he1 he2 he3
      subst he1 he3
      obtain ⟨kd,hkd⟩:∃ x,n.kids[kidN n k]=x:=⟨_,rfl⟩
      have e0:w4.cell? ⟨b,off+kidN n k,none⟩=some (.int .i64 kd):=by rw [← hkd];simpa [iC] using hcells 0 _ rfl
      have HKE:=Lib.hid (show n.kids.getD (kidN n k) 0=kd by rw [List.getD_eq_getElem?_getD,List.getElem?_eq_getElem hkn,hkd];rfl)
      rw [HKE.out] at HRW
      clear hkd hcells
      have hk1:(0:Int)≤(kidN n k:Int):=by omega
      have hk2:(kidN n k:Int)<(n.kids.length:Int):=by omega
      have HI:=Lib.hid (HIH.out f rfl kd s2 w4 HS4.out (HCP4.out.mono (by omega)))
      rw [show (20 - (f:Int))=lv+1 by have:=HLV.out;omega] at HI
      have hwl:IntKind.i64.wrap (lv+1)=lv+1:=by rw [IntKind.wrap_i64];omega
      unfold shV at HI
      have hlv3:¬ (lv=20):=by simpa using hlv2
      go_wp2_with fail
      refine HI.out.mono ?_
      rintro e w5 ⟨hp,hs,hc⟩
      have HS5:=Lib.hid hs
      have HX5:=Lib.hid (hc.keep HX4.out (by omega))
      have HZ5:=Lib.hid (hc.keep HZ4.out (by omega))
      have HC5:=Lib.hid (HC4.out.trans hc)
      have HPN5:=Lib.hid (HPN4.out.ch hc (fun k hk e=>by omega) (by omega))
      have hsz5:=hc.size
      clear hs hc n0 n1 n2 n3 n4 e0 HX4 HZ4 HC4 HPN4 HI HKS
      have hnz:=Pro.NZ.run (alterT (putLeaf k vl) k f kd) s2
      obtain ⟨⟨s5,a⟩,hx⟩:∃ x,(alterT (putLeaf k vl) k f kd).run s2=x:=⟨_,rfl⟩
      rw [hx] at HS5 hp hnz
      have HXX:=Lib.hid hx
      clear hx
      rcases a with (_ | c) | x
      ·
       obtain ⟨v,rfl,m,B1,l1,e1,B2,l2,e2,B3,l3,e3,rfl⟩:=hp
       have HW:=Lib.hid (HRW.out.trans (run_bind_ok HXX.out))
       have HBA:=Lib.hid (show Below w5.heap.size w5 (w5.alloc (ndB m (.slice B1 l1 e1) (.slice B2 l2 e2) (.slice B3 l3 e3))) from (Below.refl _ w5).alloc (Nat.le_refl _) _)
       have HC18:=Lib.hid (blk_new (w0:=w5) (g:=w5.heap.size) (o:=ndB m (.slice B1 l1 e1) (.slice B2 l2 e2) (.slice B3 l3 e3)) rfl)
       go_upto_region 11 with fail
       generalize hw1:w5.alloc (.cells #[.bool m.leaf,.slice B1 l1 e1,.slice B2 l2 e2,.slice B3 l3 e3] 110)=w6 at *
       have hw2:w5.alloc (ndB m (.slice B1 l1 e1) (.slice B2 l2 e2) (.slice B3 l3 e3))=w6:=hw1
       rw [hw2] at HBA HC18
       clear hw1 hw2
       have HX6:=Lib.hid (blk_keep HX5.out HBA.out)
       have HZ6:=Lib.hid (blk_keep HZ5.out HBA.out)
       have HS6:=Lib.hid (HS5.out.ch (S:=fun _=>False) (Ch.of_below HBA.out) id id)
       have HC6:=Lib.hid (HC5.out.trans (Ch.of_below HBA.out))
       have HPN6:=Lib.hid (HPN5.out.keep HBA.out)
       have hsz6:=HBA.out.size
       obtain ⟨F1,f1,F2,f2,F3,f3,hb,hnf⟩:=HPN6.out.any
       have HNN:=Lib.hid hnf
       obtain ⟨n0,n1,n2,n3,n4⟩:=nd_cells hb
       obtain ⟨o0,o1,o2,o3,o4⟩:=nd_cells HZ6.out
       have fo:=blk_frozen HZ6.out
       simp only [Nd.zero] at o0
       clear hb hnf
       go_wp2_with fail
       clear n0 n1 n2 n3 n4 o0 o1 o2 o3 o4 fo
       have hf:=set4 HZ6.out n.leaf (.slice F1 n.keys.length f1) (.slice F2 n.cells.length f2) (.slice F3 n.kids.length f3)
       have hc:=set4_ch w6 w.heap.size (.bool n.leaf) (.slice F1 n.keys.length f1) (.slice F2 n.cells.length f2) (.slice F3 n.kids.length f3)
       obtain ⟨z0,z1,z2,z3,-⟩:=nd_cells hf
       simp only at z0
       refine bodyPost_ret (v:=.tuple #[.agg #[.bool n.leaf,(.slice F1 n.keys.length f1),(.slice F2 n.cells.length f2),(.slice F3 n.kids.length f3)],.bool false,.int .i64 0]) (by simp [results,Tryz.results121,go_sem,z0,z1,z2,z3]) rfl ?_
       rw [HW.out]
       exact ⟨⟨_,rfl,⟨n,_,_,_,_,_,_,_,_,_,rfl⟩⟩,HS6.out.ch hc (by omega) (by omega),HC6.out.then hc (fun i hi=>.inr (by omega))⟩
      ·
       obtain ⟨v,rfl,⟨vk,vc,vd,rfl,s1,s2',s3⟩,hft,hsm⟩:=hp
       have HW0:=Lib.hid (HRW.out.trans (run_bind_ok HXX.out))
       obtain ⟨B1,e1,rfl,-,-⟩:=s1.cap
       obtain ⟨B2,e2,rfl,-,-⟩:=s2'.cap
       obtain ⟨B3,e3,rfl,-,-⟩:=s3.cap
       have HCF:=Lib.hid (show NdF w4.heap.size w5 (.agg #[.bool c.leaf,.slice B1 c.keys.length e1,.slice B2 c.cells.length e2,.slice B3 c.kids.length e3]) c from ⟨_,_,_,rfl,s1,s2',s3⟩)
       have HCFT:=Lib.hid hft
       have HCSM:=Lib.hid hsm
       clear s1 s2' s3 hft hsm
       have HBA:=Lib.hid (show Below w5.heap.size w5 (w5.alloc (ndB c (.slice B1 c.keys.length e1) (.slice B2 c.cells.length e2) (.slice B3 c.kids.length e3))) from (Below.refl _ w5).alloc (Nat.le_refl _) _)
       have HC18:=Lib.hid (blk_new (w0:=w5) (g:=w5.heap.size) (o:=ndB c (.slice B1 c.keys.length e1) (.slice B2 c.cells.length e2) (.slice B3 c.kids.length e3)) rfl)
       go_upto_region 11 with fail
       generalize hw1:w5.alloc (.cells #[.bool c.leaf,.slice B1 c.keys.length e1,.slice B2 c.cells.length e2,.slice B3 c.kids.length e3] 110)=w6 at *
       have hw2:w5.alloc (ndB c (.slice B1 c.keys.length e1) (.slice B2 c.cells.length e2) (.slice B3 c.kids.length e3))=w6:=hw1
       rw [hw2] at HBA HC18
       clear hw1 hw2
       have HX6:=Lib.hid (blk_keep HX5.out HBA.out)
       have HZ6:=Lib.hid (blk_keep HZ5.out HBA.out)
       have HS6:=Lib.hid (HS5.out.ch (S:=fun _=>False) (Ch.of_below HBA.out) id id)
       have HC6:=Lib.hid (HC5.out.trans (Ch.of_below HBA.out))
       have HPN6:=Lib.hid (HPN5.out.keep HBA.out)
       have hsz6:=HBA.out.size
       have HST:=Lib.hid (settle_any n c (kidN n k) w1.heap.size gs gm w2.heap.size s5 _ w6 HS6.out HPN6.out ((HCF.out.keep HBA.out).mono (by omega)) (by omega) (by omega) hsz2 HCFT.out (HCSM.out.mono (by decide)) HFT.out HGD.out HSM.out HHL.out hkn)
       have HAL:=Lib.hid (settle_all (i:=kidN n k) (m:=231) HFT.out HSM.out HHL.out hkn HCSM.out hk0)
       unfold shV at HST
       obtain ⟨n0,n1,n2,n3,n4⟩:=nd_cells HC18.out
       go_wp2_with fail
       refine HST.out.mono ?_
       rintro e w7 ⟨hp,hs,hc⟩
       have HS7:=Lib.hid hs
       have HZ7:=Lib.hid (hc.keep HZ6.out (fun e=>by rcases e with e | e | e <;> omega))
       have HC7:=Lib.hid (show Ch (fun k=>k=gs∨k=gm) w w7 from HC6.out.then hc (fun i hi=>by rcases hi with e | e | e;exact .inl (.inl e);exact .inl (.inr e);exact .inr (by omega)))
       have hsz7:=hc.size
       clear hs hc n0 n1 n2 n3 n4 HST
       obtain ⟨⟨s7,a⟩,hx⟩:∃ x,(settleT n (kidN n k) c).run s5=x:=⟨_,rfl⟩
       rw [hx] at HS7 hp
       have HXY:=Lib.hid hx
       clear hx
       rcases a with n' | x
       ·obtain ⟨rfl,hpn⟩:=hp
        obtain ⟨hok1,hok2,hok3⟩:=Pro.All.run _ _ _ _ HAL.out HXY.out
        have HF':=Lib.hid hok1
        have HS':=Lib.hid hok2
        have HP7:=Lib.hid hpn
        clear hok1 hok2 hok3 hpn
        have HW:=Lib.hid (HW0.out.trans (show (altO n k (some c)).run s5=(s7,.ok (some n')) from run_bind_ok HXY.out))
        obtain ⟨F1,f1,F2,f2,F3,f3,hb,hnf⟩:=HP7.out.any
        have HNN:=Lib.hid hnf
        obtain ⟨n0,n1,n2,n3,n4⟩:=nd_cells hb
        obtain ⟨o0,o1,o2,o3,o4⟩:=nd_cells HZ7.out
        have fo:=blk_frozen HZ7.out
        simp only [Nd.zero] at o0
        clear hb hnf
        go_wp2_with fail
        clear n0 n1 n2 n3 n4 o0 o1 o2 o3 o4 fo
        have hf:=set4 HZ7.out (n').leaf (.slice F1 (n').keys.length f1) (.slice F2 (n').cells.length f2) (.slice F3 (n').kids.length f3)
        have hc:=set4_ch w7 w.heap.size (.bool (n').leaf) (.slice F1 (n').keys.length f1) (.slice F2 (n').cells.length f2) (.slice F3 (n').kids.length f3)
        obtain ⟨z0,z1,z2,z3,-⟩:=nd_cells hf
        simp only at z0
        refine bodyPost_ret (v:=.tuple #[.agg #[.bool (n').leaf,(.slice F1 (n').keys.length f1),(.slice F2 (n').cells.length f2),(.slice F3 (n').kids.length f3)],.bool true,.int .i64 0]) (by simp [results,Tryz.results121,go_sem,z0,z1,z2,z3]) rfl ?_
        rw [HW.out]
        exact ⟨⟨_,rfl,(HNN.out.ch hc (fun k hk e=>by omega)).mono (by omega),HF'.out,HS'.out⟩,HS7.out.ch hc (by omega) (by omega),HC7.out.then hc (fun i hi=>.inr (by omega))⟩
       ·obtain ⟨rfl,n',hpn⟩:=hp
        have HP7:=Lib.hid hpn
        clear hpn
        have HW:=Lib.hid (HW0.out.trans (show (altO n k (some c)).run s5=(s7,.err x) from run_bind_err HXY.out))
        obtain ⟨F1,f1,F2,f2,F3,f3,hb,hnf⟩:=HP7.out.any
        have HNN:=Lib.hid hnf
        obtain ⟨n0,n1,n2,n3,n4⟩:=nd_cells hb
        obtain ⟨o0,o1,o2,o3,o4⟩:=nd_cells HZ7.out
        have fo:=blk_frozen HZ7.out
        simp only [Nd.zero] at o0
        clear hb hnf
        go_wp2_with fail
        clear n0 n1 n2 n3 n4 o0 o1 o2 o3 o4 fo
        have hf:=set4 HZ7.out (n').leaf (.slice F1 (n').keys.length f1) (.slice F2 (n').cells.length f2) (.slice F3 (n').kids.length f3)
        have hc:=set4_ch w7 w.heap.size (.bool (n').leaf) (.slice F1 (n').keys.length f1) (.slice F2 (n').cells.length f2) (.slice F3 (n').kids.length f3)
        obtain ⟨z0,z1,z2,z3,-⟩:=nd_cells hf
        simp only at z0
        refine bodyPost_ret (v:=.tuple #[.agg #[.bool (n').leaf,(.slice F1 (n').keys.length f1),(.slice F2 (n').cells.length f2),(.slice F3 (n').kids.length f3)],.bool true,.int .i64 x]) (by simp [results,Tryz.results121,go_sem,z0,z1,z2,z3]) rfl ?_
        rw [HW.out]
        exact ⟨⟨_,_,rfl,⟨n',_,_,_,_,_,_,_,_,_,rfl⟩⟩,HS7.out.ch hc (by omega) (by omega),HC7.out.then hc (fun i hi=>.inr (by omega))⟩
      ·obtain ⟨v,dd,rfl,m,B1,l1,e1,B2,l2,e2,B3,l3,e3,rfl⟩:=hp
       have HW:=Lib.hid (HRW.out.trans (run_bind_err HXX.out))
       have hx0:¬ x=0:=hnz x (alterT_nz (putLeaf_nz k vl) k f kd) rfl
       have hx1:(x == 0)=false:=by simpa using hx0
       have HBA:=Lib.hid (show Below w5.heap.size w5 (w5.alloc (ndB m (.slice B1 l1 e1) (.slice B2 l2 e2) (.slice B3 l3 e3))) from (Below.refl _ w5).alloc (Nat.le_refl _) _)
       have HC18:=Lib.hid (blk_new (w0:=w5) (g:=w5.heap.size) (o:=ndB m (.slice B1 l1 e1) (.slice B2 l2 e2) (.slice B3 l3 e3)) rfl)
       go_upto_region 11 with fail
       generalize hw1:w5.alloc (.cells #[.bool m.leaf,.slice B1 l1 e1,.slice B2 l2 e2,.slice B3 l3 e3] 110)=w6 at *
       have hw2:w5.alloc (ndB m (.slice B1 l1 e1) (.slice B2 l2 e2) (.slice B3 l3 e3))=w6:=hw1
       rw [hw2] at HBA HC18
       clear hw1 hw2
       have HX6:=Lib.hid (blk_keep HX5.out HBA.out)
       have HZ6:=Lib.hid (blk_keep HZ5.out HBA.out)
       have HS6:=Lib.hid (HS5.out.ch (S:=fun _=>False) (Ch.of_below HBA.out) id id)
       have HC6:=Lib.hid (HC5.out.trans (Ch.of_below HBA.out))
       have HPN6:=Lib.hid (HPN5.out.keep HBA.out)
       have hsz6:=HBA.out.size
       obtain ⟨F1,f1,F2,f2,F3,f3,hb,hnf⟩:=HPN6.out.any
       have HNN:=Lib.hid hnf
       obtain ⟨n0,n1,n2,n3,n4⟩:=nd_cells hb
       obtain ⟨o0,o1,o2,o3,o4⟩:=nd_cells HZ6.out
       have fo:=blk_frozen HZ6.out
       simp only [Nd.zero] at o0
       clear hb hnf
       go_wp2_with fail
       clear n0 n1 n2 n3 n4 o0 o1 o2 o3 o4 fo
       have hf:=set4 HZ6.out n.leaf (.slice F1 n.keys.length f1) (.slice F2 n.cells.length f2) (.slice F3 n.kids.length f3)
       have hc:=set4_ch w6 w.heap.size (.bool n.leaf) (.slice F1 n.keys.length f1) (.slice F2 n.cells.length f2) (.slice F3 n.kids.length f3)
       obtain ⟨z0,z1,z2,z3,-⟩:=nd_cells hf
       simp only at z0
       refine bodyPost_ret (v:=.tuple #[.agg #[.bool n.leaf,(.slice F1 n.keys.length f1),(.slice F2 n.cells.length f2),(.slice F3 n.kids.length f3)],.bool dd,.int .i64 x]) (by simp [results,Tryz.results121,go_sem,z0,z1,z2,z3]) rfl ?_
       rw [HW.out]
       exact ⟨⟨_,_,rfl,⟨n,_,_,_,_,_,_,_,_,_,rfl⟩⟩,HS6.out.ch hc (by omega) (by omega),HC6.out.then hc (fun i hi=>.inr (by omega))⟩
   ·rw [hl] at n0
    have HV:=Lib.hid (HRV.out.trans (show (altK (putLeaf k vl) k f n).run s2=(putLeaf k vl n).run s2 by unfold altK;rw [hl];rfl))
    have HDO:=Lib.hid (put1_any n k vl w1.heap.size g1 g2 g3 gs gm w2.heap.size s2 w3 HS3.out (HCP3.out.mono (by omega)) HLF.out HGD.out hl (HSM.out.mono (by decide)) hkl hvl (by omega) (by omega) hsz2)
    go_wp2_with fail
    refine HDO.out.mono ?_
    rintro e w4 ⟨hp,hs,hc⟩
    have HS4:=Lib.hid hs
    have HZ4:=Lib.hid (hc.keep HZ3.out (fun e=>by rcases e with e | e | e <;> omega))
    have HC4:=Lib.hid (show Ch (fun k=>k=gs∨k=gm) w w4 from HC3.out.then hc (fun i hi=>by rcases hi with e | e | e;exact .inl (.inl e);exact .inl (.inr e);exact .inr (by omega)))
    have hsz4:=hc.size
    clear hs hc n0 n1 n2 n3 n4 HDO
    obtain ⟨⟨s5,a⟩,hx⟩:∃ x,(putLeaf k vl n).run s2=x:=⟨_,rfl⟩
    rw [hx] at HS4 hp
    have HW:=Lib.hid (HV.out.trans hx)
    clear hx
    obtain ⟨o0,o1,o2,o3,o4⟩:=nd_cells HZ4.out
    have fo:=blk_frozen HZ4.out
    simp only [Nd.zero] at o0
    rcases a with (_ | n') | x
    ·obtain ⟨rfl,m,B1,l1,e1,B2,l2,e2,B3,l3,e3,hb⟩:=hp
     obtain ⟨n0,n1,n2,n3,n4⟩:=nd_cells hb
     clear hb
     go_wp2_with fail
     clear n0 n1 n2 n3 n4 o0 o1 o2 o3 o4 fo
     have hf:=set4 HZ4.out (m).leaf (.slice B1 l1 e1) (.slice B2 l2 e2) (.slice B3 l3 e3)
     have hc:=set4_ch w4 w.heap.size (.bool (m).leaf) (.slice B1 l1 e1) (.slice B2 l2 e2) (.slice B3 l3 e3)
     obtain ⟨z0,z1,z2,z3,-⟩:=nd_cells hf
     simp only at z0
     refine bodyPost_ret (v:=.tuple #[.agg #[.bool (m).leaf,(.slice B1 l1 e1),(.slice B2 l2 e2),(.slice B3 l3 e3)],.bool false,.int .i64 0]) (by simp [results,Tryz.results121,go_sem,z0,z1,z2,z3]) rfl ?_
     rw [HW.out]
     exact ⟨⟨_,rfl,⟨m,_,_,_,_,_,_,_,_,_,rfl⟩⟩,HS4.out.ch hc (by omega) (by omega),HC4.out.then hc (fun i hi=>.inr (by omega))⟩
    ·obtain ⟨rfl,hlf,hsm,hft⟩:=hp
     have HSM2:=Lib.hid hsm
     have HFT2:=Lib.hid hft
     obtain ⟨B1,e1,B2,e2,B3,e3,hb,hnf⟩:=hlf.ndf
     have HNF:=Lib.hid hnf
     clear hlf hsm hft hnf
     obtain ⟨n0,n1,n2,n3,n4⟩:=nd_cells hb
     clear hb
     go_wp2_with fail
     clear n0 n1 n2 n3 n4 o0 o1 o2 o3 o4 fo
     have hf:=set4 HZ4.out (n').leaf (.slice B1 n'.keys.length e1) (.slice B2 n'.cells.length e2) (.slice B3 n'.kids.length e3)
     have hc:=set4_ch w4 w.heap.size (.bool (n').leaf) (.slice B1 n'.keys.length e1) (.slice B2 n'.cells.length e2) (.slice B3 n'.kids.length e3)
     obtain ⟨z0,z1,z2,z3,-⟩:=nd_cells hf
     simp only at z0
     refine bodyPost_ret (v:=.tuple #[.agg #[.bool (n').leaf,(.slice B1 n'.keys.length e1),(.slice B2 n'.cells.length e2),(.slice B3 n'.kids.length e3)],.bool true,.int .i64 0]) (by simp [results,Tryz.results121,go_sem,z0,z1,z2,z3]) rfl ?_
     rw [HW.out]
     exact ⟨⟨_,rfl,(HNF.out.ch hc (fun k hk e=>by omega)).mono (by omega),HFT2.out,HSM2.out⟩,HS4.out.ch hc (by omega) (by omega),HC4.out.then hc (fun i hi=>.inr (by omega))⟩
    ·obtain ⟨rfl,m,B1,l1,e1,B2,l2,e2,B3,l3,e3,hb⟩:=hp
     obtain ⟨n0,n1,n2,n3,n4⟩:=nd_cells hb
     clear hb
     go_wp2_with fail
     clear n0 n1 n2 n3 n4 o0 o1 o2 o3 o4 fo
     have hf:=set4 HZ4.out (m).leaf (.slice B1 l1 e1) (.slice B2 l2 e2) (.slice B3 l3 e3)
     have hc:=set4_ch w4 w.heap.size (.bool (m).leaf) (.slice B1 l1 e1) (.slice B2 l2 e2) (.slice B3 l3 e3)
     obtain ⟨z0,z1,z2,z3,-⟩:=nd_cells hf
     simp only at z0
     refine bodyPost_ret (v:=.tuple #[.agg #[.bool (m).leaf,(.slice B1 l1 e1),(.slice B2 l2 e2),(.slice B3 l3 e3)],.bool false,.int .i64 x]) (by simp [results,Tryz.results121,go_sem,z0,z1,z2,z3]) rfl ?_
     rw [HW.out]
     exact ⟨⟨_,_,rfl,⟨m,_,_,_,_,_,_,_,_,_,rfl⟩⟩,HS4.out.ch hc (by omega) (by omega),HC4.out.then hc (fun i hi=>.inr (by omega))⟩
theorem alterP_all (k vl:By) (g1 g2 g3 gs gm:Nat) (hkl:k.length≤64) (hvl:vl.length≤1000000):∀ (f:Nat) (at_:Int) (s:Sf) (w:World),f≤19→ShIs w gs gm s→CapP w.heap.size g1 g2 g3 gs gm k vl w→
  Calls Tryz.prog 121 #[shV gs,.int .i64 at_,.int .i64 (20 - f:Int),.string (mkS k),.func (.func 68) #[] #[.pointer (some ⟨g1,0,none⟩),.pointer (some ⟨g2,0,none⟩),.pointer (some ⟨g3,0,none⟩)]] w fun e w'=>AltP w.heap.size w' e ((alterT (putLeaf k vl) k f at_).run s).2∧ShIs w' gs gm ((alterT (putLeaf k vl) k f at_).run s).1∧Ch (fun k=>k=gs∨k=gm) w w'
 | 0,at_,s,w,hf,hS,hC=>alterP_any k vl g1 g2 g3 gs gm hkl hvl 0 at_ s w hf hS hC (fun f' h=>by omega)
 | f+1,at_,s,w,hf,hS,hC=>alterP_any k vl g1 g2 g3 gs gm hkl hvl (f+1) at_ s w hf hS hC (fun f' h=>by
     obtain rfl:f'=f:=by omega
     exact fun a s w hS hC=>alterP_all k vl g1 g2 g3 gs gm hkl hvl f' a s w (by omega) hS hC)
end Go.Proofs.YtknioodagnjchaaGreatDoor
