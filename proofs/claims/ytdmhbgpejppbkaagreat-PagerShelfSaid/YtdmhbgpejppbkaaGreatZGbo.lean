/- pager: commit where no page stands on the disk yet; Commit. pager: find and Open on a disk that holds pages; Commit. -/
import Derived.Test.YtdmhbgpejppbkaaGreatZGbk
import Derived.Test.YtdmhbgpejppbkaaGreatZGbn
set_option maxRecDepth 100000
set_option maxHeartbeats 4000000
namespace Go.Proofs.YtdmhbgpejppbkaaGreat
open Go.Lib (hid)
open Go.RowKit Go.Maps
theorem me (w:World) {L:PgL} {P:Pgr} (h:PgIs w L P) (hle:P.d.size aI≤(P.head.pages:Int)):
  Calls Tryz.prog 116 #[au L.gp] w fun e w'=>e=.returned (.tuple #[])∧Below w.heap.size w w':=by
 have hC:=ai h.blk;have hl:=hC.lt;have c0:=hC.c0;have c3:=hC.c3;have HSZ:=hid (fun (y:Up w)=>cn aI (by decide) y.w (h.dk.ch (Ch.of_below (S:=fun _=>False) y.h) (fun _ _ h=>h)));have hgt:decide (P.d.size aI > (P.head.pages:Int))=false:=decide_eq_false (by omega);unfold au dQ at *;rw [uJ] at HSZ;generalize P.d.size aI=sz at *;clear h hC;go_enter Tryz.func116,Tryz.ntmps116;go_upto_region 0 with fail
 refine ar (by kernel_rfl) (by kernel_rfl) ?_;have f0:=aE c0 hl;have f3:=aE c3 hl
 repeat (go_big_quiet_step (first
  | (go_at_call 101;(with_reducible exact bd (HSZ.out _)))))
 refine wpQuiet_nil ?_;rintro w1 ⟨⟨_,hb1⟩,rfl⟩;have HB1:=hid hb1;clear hb1;go_wp2_with fail;exact bodyPost_end (results_none rfl _ _ _) rfl ⟨rfl,HB1.out⟩
theorem ry (w:World) {L:PgL} {P:Pgr} (h:PgIs w L P):Calls Tryz.prog 91 #[au L.gp] w fun e w'=>e=.returned (.tuple #[])∧PTo w L P.ended w':=
 (fo w h).mono fun e w' ⟨he,hp,hc⟩=>⟨he,L.bare,rfl,hp,fun k hk=>(by
   rcases hk with hk | hk | hk | hk | hk
   ·exact .inl (.inl hk)
   ·exact .inl (.inr (.inl hk))
   ·exact .inl (.inr (.inr (.inl hk)))
   ·exact hk.elim
   ·rcases hk with hk | hk <;> cases hk),hc.mono fun k _ e=>.inl e⟩
def Pgr.bump (P:Pgr):Pgr:={ P with work:={ P.work with change:=P.work.change+1 } }
def lj (n:Nat) (x:Pg):Bool:=decide (x.n<(n:Int))
def Pgr.comL (P:Pgr):List Pg:=(⟨0,ak (bI P.work)⟩:Pg) :: (cI P.ca).filter (lj P.work.pages)
def Pgr.based (P:Pgr):Pgr:={ P with head:=P.work,base:=P.work.pages }
def Pgr.tidy1 (P:Pgr) (x:Pg):Pgr:={ P with ca:=if lj P.head.pages x then et x.n P.ca else aD x.n P.ca }
def Pgr.tidy (P:Pgr) (l:List Pg):Pgr:=l.foldl Pgr.tidy1 P
def Pgr.com0 (P:Pgr):Pgr:=(((P.bump.main0 P.bump.comL).based).tidy (cI (P.bump.main0 P.bump.comL).ca)).ended
theorem rk (P:Pgr) (l:List Pg) {j:Nat} (h:j<l.length):P.tidy (l.take (j+1))=(P.tidy (l.take j)).tidy1 l[j]:=by unfold Pgr.tidy;rw [List.take_succ_eq_append_getElem h,List.foldl_append];rfl
theorem fP:∀ (l:List Pg) (P:Pgr),(P.tidy l).head=P.head∧(P.tidy l).size=P.size∧(P.tidy l).d=P.d
 | [],_=>⟨rfl,rfl,rfl⟩
 | x :: l,P=>fP l (P.tidy1 x)
def dB (x:Pg):Obj:=.cells (Pg.cells x).toArray 134 (0,0)
structure PgLp (w2 w4:World) (W:He) (ds:List Pg) (j:Nat) (pv:Value) (wr:World):Prop where
 own:Own Pg.cells 2 134 w2.heap.size wr pv ((⟨0,ak (bI W)⟩:Pg) :: (ds.take j).filter (lj W.pages))
 ch:Ch (fun k=>k=w2.heap.size) w4 wr
 at_:∀ k,pv.ownBlock=some k→k=w2.heap.size∨w4.heap.size≤k
theorem Ch.up {S:Nat→Prop} {w w':World} (h:Ch (fun k=>w.heap.size≤k) w w'):Ch S w w':=⟨h.os,h.tape,h.output,h.size,fun k hk _=>h.block k hk (by omega)⟩
structure CanCom (P:Pgr):Prop where
 good:P.bump.work.Good
 ch:P.work.change+1<18446744073709551616
 main:CanMain P.bump P.bump.comL
 nums:∀ x ∈ cI (P.bump.main0 P.bump.comL).ca,fM x.n
 few:(cI P.ca).length≤1000
 few2:(cI (P.bump.main0 P.bump.comL).ca).length≤1000
 hp:(P.bump.main0 P.bump.comL).work.pages≤4096
 size:((P.bump.main0 P.bump.comL)).d.size aI≤((P.bump.main0 P.bump.comL).work.pages:Int)
attribute [local go_sem ↓] mJ
theorem kd (w:World) {L:PgL} {P:Pgr} (h:PgIs w L P) (hc:CanCom P):
  Calls Tryz.prog 57 #[au L.gp] w fun e w'=>e=.returned (.int .i64 0)∧PTo w L P.com0 w':=by
 have HH:=hid h;have HC:=hid hc;have hC:=ai h.blk;have hl:=hC.lt;have c20:=hC.c20;have z20:=hC.fz 20;have hwr:IntKind.u64.wrap ((P.work.change:Int)+1)=(P.work.change:Int)+1:=IntWalk.u64_in _ (by have:=hc.ch;omega);have hto:PTo w L P.bump (w.setCell ⟨L.gp,20,none⟩ (.int .u64 ((P.work.change:Int)+1))):=h.cell 20 (.int .u64 ((P.work.change:Int)+1)) (by
  have:=ae h.blk 20 (.int .u64 ((P.work.change:Int)+1));exact this) rfl rfl rfl rfl rfl ⟨h.ok.s1,h.ok.s2,h.ok.base,h.ok.hp,h.ok.wp,h.ok.nos⟩
 unfold au at *;clear h hc hC;go_enter Tryz.func57,Tryz.ntmps57;go_upto_region 2 with fail
 generalize w.setCell ⟨L.gp,20,none⟩ (.int .u64 ((P.work.change:Int)+1))=w1 at *;obtain ⟨L1,g1,p1,f1,k1⟩:=hto;have HP1:=hid (And.intro p1 (And.intro g1 (And.intro f1 k1)));have hC:=ai p1.blk;have hl:=hC.lt;have c15:=hC.c15;have c16:=hC.c16;have c17:=hC.c17;have c18:=hC.c18;have c19:=hC.c19;have c20:=hC.c20;rw [g1] at hl c15 c16 c17 c18 c19 c20;have HEN:=hid (ll P.bump.work w1 HC.out.good);unfold eH ko at HEN;obtain ⟨W,hW⟩:∃ W,P.bump.work=W:=⟨_,rfl⟩;have HWW:=hid hW;rw [hW] at HEN c15 c16 c17 c18 c19 c20;clear hC g1 p1 f1 k1 hW z20 hwr;go_wp2_with fail;refine HEN.out.mono ?_;rintro e w2 ⟨rfl,hb2⟩;have HB2:=hid hb2;have HP2:=hid (HP1.out.1.below hb2);clear hb2 c15 c16 c17 c18 c19 c20 hl;have hA3:Below w2.heap.size w2 (w2.alloc (dB ⟨0,ak (bI W)⟩)):=(Below.refl _ w2).alloc (Nat.le_refl _) _;have hO3:Own Pg.cells 2 134 w2.heap.size (w2.alloc (dB ⟨0,ak (bI W)⟩)) (.slice (some ⟨w2.heap.size,0,none⟩) 1 1) [(⟨0,ak (bI W)⟩:Pg)]:=by have h1:=World.ownsRow_lit (base:=w2.heap.size) (e:=134) w2 (Pg.cells ⟨0,ak (bI W)⟩).toArray 1 (size:=2) (Nat.le_refl _) (by unfold maxLen;omega) rfl;unfold Own dB;simpa [Pg.cells] using h1
 have HA3:=hid hA3;have HO3:=hid hO3;have HP3:=hid (HP2.out.below hA3);have hC:=ai HP3.out.blk;have e1:=hC.c1;have el:=hC.lt;rw [HP1.out.2.1] at e1 el;have HDT:=hid (lC _ HP3.out.ca HP3.out.ok.s2);obtain ⟨ac,hac⟩:=HP3.out.ca.ptr;rw [hac] at e1 HDT;have hbc:P.bump.ca=P.ca:=rfl;rw [hbc] at HDT;obtain ⟨ds,hds⟩:∃ ds,cI P.ca=ds:=⟨_,rfl⟩;have HDS:=hid hds;have hdl:ds.length≤1000:=by rw [← hds];exact HC.out.few
 clear hA3 hO3 hC hac hbc hds;go_upto_region 6 with fail
 have hw3:∃ w3,w2.alloc (dB ⟨0,ak (bI W)⟩)=w3:=⟨_,rfl⟩;obtain ⟨w3,hw3⟩:=hw3;change Code.wp _ _ _ _ (w2.alloc (dB ⟨0,ak (bI W)⟩));have hs3:w3.heap.size=w2.heap.size+1:=by rw [← hw3];simp
 rw [hw3] at HA3 HO3 HP3 HDT e1 el ⊢;have HS3:=hid hs3;clear hw3 hs3;go_wp2_with fail;refine HDT.out.mono ?_;rintro e w4 ⟨v1,rfl,hsl,hnw,hb4⟩;rw [HDS.out] at hsl;obtain ⟨A1,c1,rfl⟩:=Sl.len' hsl;have HV:=hid (And.intro hsl (And.intro hnw hb4));have HP4:=hid (HP3.out.below hb4);have HO4:=hid (HO3.out.below hb4);clear hsl hnw hb4 e1 el;go_wp2_with fail;go_loopw [40,5] (fun iv pv wr=>∃ j:Nat,j≤ds.length∧iv=.int .i64 j∧PgLp w2 w4 W ds j pv wr) (fun iv _ _=>ds.length - (intOf iv).toNat)
 case atStart=>exact ⟨0,Nat.zero_le _,rfl,⟨by simpa using HO4.out,Ch.refl _ _,fun k hk=>.inl (by injection hk with hk;exact hk.symm)⟩⟩
 case round=>
  obtain ⟨j,hj,rfl,hI⟩:=hrel;have HI:=hid hI;have hFl:∀ k,L1.F k→k<w2.heap.size:=fun k hk=>HP2.out.lt hk
  have hs3:=HS3.out;have hs4:=HV.out.2.2.size;have hPr:=HP4.out.ch hI.ch fun k hk e=>by have:=hFl k hk;omega
  have HPR:=hid hPr;by_cases hlt:j<ds.length
  ·obtain ⟨b,off,c',he,hbl,hcells⟩:=(fh HV.out.1 hI.ch fun k hk e=>by have:=HV.out.2.1 k hk;omega).at1 hlt;injection he with he1 he2 he3
   subst he1 he3;have hj0:(0:Int)≤(j:Int):=by omega
   have hj1:(j:Int)<(ds.length:Int):=by omega
   have HJ:=hid (And.intro hj hlt);have HT:=hid (show ds.take (j+1)=ds.take j ++ [ds[j]] from List.take_succ_eq_append_getElem hlt);generalize ds[j]=x at *;obtain ⟨xn,xs⟩:=x;have x0:wr.cell? ⟨b,off+j * 2,none⟩=some (.int .i64 xn):=hcells 0 _ rfl;have x1:wr.cell? ⟨b,off+j * 2+1,none⟩=some (.string xs):=hcells 1 _ rfl;have HX:=hid (show Below wr.heap.size wr (wr.alloc (dB ⟨xn,xs⟩))∧(wr.alloc (dB ⟨xn,xs⟩)).heap[wr.heap.size]?=some (dB ⟨xn,xs⟩) from ⟨(Below.refl _ wr).alloc (Nat.le_refl _) _,ah rfl⟩);clear hcells hI hFl hs3 hs4 hPr hj he2;go_upto_region 9 with fail
   have hwx:∃ wx,wr.alloc (dB ⟨xn,xs⟩)=wx:=⟨_,rfl⟩;obtain ⟨wx,hwx⟩:=hwx;change Code.wp _ _ _ _ (wr.alloc (dB ⟨xn,xs⟩));rw [hwx] at HX ⊢;clear hwx x0 x1 hbl;have hC:=ai (HPR.out.below HX.out.1).blk;have c16:=hC.c16;have cl:=hC.lt;rw [HP1.out.2.1,HWW.out] at c16;rw [HP1.out.2.1] at cl;have n0:wx.cell? ⟨wr.heap.size,0,none⟩=some (.int .i64 xn):=aa HX.out.2 0;have n1:wx.cell? ⟨wr.heap.size,1,none⟩=some (.string xs):=aa HX.out.2 1;have nl:=af HX.out.2;clear hC;by_cases hin:xn<(W.pages:Int)
   ·have HIN:=hid (show (ds.take (j+1)).filter (lj W.pages)=(ds.take j).filter (lj W.pages) ++ [⟨xn,xs⟩] by rw [HT.out,List.filter_append];congr 1;simp [lj,hin]);go_wp2_with fail;go_region;have hbA:Below wr.heap.size wr (wx.drew.alloc (dB ⟨xn,xs⟩)):=(HX.out.1.drew).alloc (by have:=HX.out.1.size;simpa using this) _;have hln:((⟨0,ak (bI W)⟩:Pg) :: (ds.take j).filter (lj W.pages)).length≤1001:=by have:=List.length_filter_le (lj W.pages) (ds.take j);rw [List.length_cons];rw [List.length_take] at this;omega
    obtain ⟨v',w6,hr,ho,hg,hat⟩:=bS (P:=Tryz.prog) ve 135 (HI.out.own.below hbA)
     (Sl.one (w0:=wx.drew) (g:=wx.heap.size) (e:=134) (cs:=(Pg.cells ⟨xn,xs⟩).toArray) (⟨xn,xs⟩:Pg) (c:=1) rfl Pg.len (by simp)) (by unfold maxLen;simp only [List.length_cons,List.length_nil] at hln ⊢;omega) (by simp only [List.length_cons,List.length_nil] at hln ⊢;omega) (by have h1:=hbA.size;have h2:=HI.out.ch.size;have h3:=HV.out.2.2.size;have h4:=HS3.out;omega)
    have hr':(kz #[135,135] 135 #[u5,.slice (some ⟨wx.heap.size,0,none⟩) 1 1]).run Tryz.prog (wx.alloc (dB ⟨xn,xs⟩)).drew=.ok v' w6:=hr;have HN:=hid (show PgLp w2 w4 W ds (j+1) v' w6 from by
     have hc5:Ch (fun k=>k=w2.heap.size) w4 (wx.drew.alloc (dB ⟨xn,xs⟩)):=HI.out.ch.trans (Ch.of_below hbA);have hc6:Ch (fun k=>u5.ownBlock=some k) (wx.drew.alloc (dB ⟨xn,xs⟩)) w6:=Ch.of_grown hg fun k hk=>hk
     refine ⟨by rw [HIN.out];simpa using ho,hc5.then hc6 fun k hk=>HI.out.at_ k hk,fun k hk=>?_⟩;rcases hat with hat | hat
     ·exact HI.out.at_ k (hat ▸ hk)
     ·rw [hat] at hk;injection hk with hk
      right;have:=hc5.size;omega)
    unfold dB Pg.cells at hr';clear hr ho hg hat hbA hln;go_wp2_with fail;go_roundw
    case rel=>exact ⟨j+1,by have:=HJ.out;omega,by go_num,HN.out⟩
    case measure=>simp [intOf];omega
   ·have HIN:=hid (show (ds.take (j+1)).filter (lj W.pages)=(ds.take j).filter (lj W.pages) by rw [HT.out,List.filter_append];simp [lj,hin]);have hin2:(W.pages:Int)≤xn:=by omega
    go_wp2_with fail;go_region;have HN:=hid (show PgLp w2 w4 W ds (j+1) u5 wx.drew from ⟨by rw [HIN.out];exact (HI.out.own.below HX.out.1).drew,(HI.out.ch.trans (Ch.of_below HX.out.1)).drew,HI.out.at_⟩);go_wp2_with fail;go_roundw
    case rel=>exact ⟨j+1,by have:=HJ.out;omega,by go_num,HN.out⟩
    case measure=>simp [intOf];omega
  ·obtain rfl:j=ds.length:=by omega
   clear hlt hj hFl hs3 hs4 hPr hI;have HIN:=hid (show ((⟨0,ak (bI W)⟩:Pg) :: (ds.take ds.length).filter (lj W.pages))=P.bump.comL by rw [List.take_length];unfold Pgr.comL;rw [HWW.out,show P.bump.ca=P.ca from rfl,HDS.out]);have hown:=HI.out.own;rw [HIN.out] at hown;obtain ⟨A5,c5,he5,-⟩:=cq hown;have hC:=ai HPR.out.blk;have cl:=hC.lt;have c9:=hC.c9;rw [HP1.out.2.1] at cl c9
   have HTM:=hid (mi P.bump.comL u5 wr HPR.out HC.out.main (hown.sl Pg.len) (fun k hk=>⟨fun e=>by
    have h1:=HP2.out.lt e;have h2:=HV.out.2.2.size;have h3:=HS3.out;rcases HI.out.at_ k hk with h | h <;> omega,by
    exact (hown.lt k hk).2⟩))
   rw [HP1.out.2.1] at HTM;unfold au at HTM;rw [he5] at HTM ⊢;clear hown he5 hC;go_wp2_with fail;refine HTM.out.mono ?_;rintro e w6 ⟨rfl,hto⟩;have HT6:=hid (show PTo w L (P.bump.main0 P.bump.comL) w6 from by
    refine PTo.and HP1.out.2.1 HP1.out.2.2.1 HP1.out.2.2.2 ?_;obtain ⟨L6,q1,q2,q3,q4⟩:=hto;have hFl:∀ k,L1.F k→k<w2.heap.size:=fun k hk=>HP2.out.lt hk
    have hsz:w1.heap.size≤w2.heap.size:=HB2.out.size;have h2w:Ch (fun k=>w1.heap.size≤k) w1 wr:=(((Ch.of_below HB2.out).trans (Ch.of_below HA3.out)).trans (Ch.of_below HV.out.2.2)).trans (HI.out.ch.mono fun k _ e=>by rw [e];exact hsz);refine ⟨L6,q1,q2,fun k hk=>(q3 k hk).imp id fun e=>Nat.le_trans h2w.size e,h2w.up.trans q4⟩)
   clear hto;obtain ⟨Q,hQ⟩:∃ Q,Q=P.bump.main0 P.bump.comL:=⟨_,rfl⟩;rw [← hQ] at HT6;have HQ:=hid hQ;obtain ⟨L6,q1,q2,q3,q4⟩:=HT6.out;have HP6:=hid (And.intro q2 (And.intro q1 (And.intro q3 q4)));have hC:=ai q2.blk;have d15:=hC.c15;have d16:=hC.c16;have d17:=hC.c17;have d18:=hC.c18;have d19:=hC.c19;have d20:=hC.c20;have d2:=hC.c2;have d3:=hC.c3;have d4:=hC.c4;have d5:=hC.c5;have d6:=hC.c6;have d7:=hC.c7;have d8:=hC.c8;have y2:=hC.fz 2;have y3:=hC.fz 3;have y4:=hC.fz 4;have y5:=hC.fz 5;have y6:=hC.fz 6;have y7:=hC.fz 7;have y8:=hC.fz 8;have dl:=hC.lt;have hhp:Q.work.pages≤4096:=by rw [hQ];exact HC.out.hp
   have hW:PgIs (((((((w6.setCell ⟨L6.gp,2,none⟩ (.int .i64 Q.work.mode)).setCell ⟨L6.gp,3,none⟩ (.int .i64 Q.work.pages)).setCell ⟨L6.gp,4,none⟩ (.int .i64 Q.work.trunk)).setCell ⟨L6.gp,5,none⟩ (.int .i64 Q.work.spare)).setCell ⟨L6.gp,6,none⟩ (.int .i64 Q.work.root)).setCell ⟨L6.gp,7,none⟩ (.int .u64 Q.work.change)).setCell ⟨L6.gp,8,none⟩ (.int .i64 Q.work.pages)) L6 Q.based∧Ch (fun k=>k=L6.gp) w6 (((((((w6.setCell ⟨L6.gp,2,none⟩ (.int .i64 Q.work.mode)).setCell ⟨L6.gp,3,none⟩ (.int .i64 Q.work.pages)).setCell ⟨L6.gp,4,none⟩ (.int .i64 Q.work.trunk)).setCell ⟨L6.gp,5,none⟩ (.int .i64 Q.work.spare)).setCell ⟨L6.gp,6,none⟩ (.int .i64 Q.work.root)).setCell ⟨L6.gp,7,none⟩ (.int .u64 Q.work.change)).setCell ⟨L6.gp,8,none⟩ (.int .i64 Q.work.pages)):=by have hc:=(((((((Ch.refl (fun k=>k=L6.gp) w6).setCell (p:=⟨L6.gp,2,none⟩) rfl (.int .i64 Q.work.mode)).setCell (p:=⟨L6.gp,3,none⟩) rfl (.int .i64 Q.work.pages)).setCell (p:=⟨L6.gp,4,none⟩) rfl (.int .i64 Q.work.trunk)).setCell (p:=⟨L6.gp,5,none⟩) rfl (.int .i64 Q.work.spare)).setCell (p:=⟨L6.gp,6,none⟩) rfl (.int .i64 Q.work.root)).setCell (p:=⟨L6.gp,7,none⟩) rfl (.int .u64 Q.work.change)).setCell (p:=⟨L6.gp,8,none⟩) rfl (.int .i64 Q.work.pages);exact ⟨q2.setBlk (P':=Q.based) hc (ae (mF q2.blk Q.work) 8 (.int .i64 Q.work.pages)) rfl rfl rfl rfl rfl ⟨q2.ok.s1,q2.ok.s2,hhp,hhp,q2.ok.wp,q2.ok.nos⟩,hc⟩
   rw [q1] at hW d15 d16 d17 d18 d19 d20 d2 d3 d4 d5 d6 d7 d8 y2 y3 y4 y5 y6 y7 y8 dl;have HWW7:=hid hW;clear hC q1 q2 q3 q4 hhp hQ hW cl c9;go_upto_region 17 with fail
   go_region;obtain ⟨w7,hw7⟩:∃ w7,w7=(((((((w6.setCell ⟨L.gp,2,none⟩ (.int .i64 Q.work.mode)).setCell ⟨L.gp,3,none⟩ (.int .i64 Q.work.pages)).setCell ⟨L.gp,4,none⟩ (.int .i64 Q.work.trunk)).setCell ⟨L.gp,5,none⟩ (.int .i64 Q.work.spare)).setCell ⟨L.gp,6,none⟩ (.int .i64 Q.work.root)).setCell ⟨L.gp,7,none⟩ (.int .u64 Q.work.change)).setCell ⟨L.gp,8,none⟩ (.int .i64 Q.work.pages)).drew:=⟨_,rfl⟩;have hp7:PgIs w7 L6 Q.based∧Ch (fun k=>k=L.gp) w6 w7:=by rw [hw7];exact ⟨HWW7.out.1.ch (S:=fun _=>False) (Ch.drew (Ch.refl _ _)) (fun _ _ h=>h),HWW7.out.2.drew⟩
   rw [← hw7];clear hw7 HWW7 d15 d16 d17 d18 d19 d20 d2 d3 d4 d5 d6 d7 d8 y2 y3 y4 y5 y6 y7 y8 dl;have HP7:=hid hp7;have hC:=ai hp7.1.blk;have e1:=hC.c1;have el:=hC.lt;rw [HP6.out.2.1] at e1 el;have HD2:=hid (lC w7 hp7.1.ca hp7.1.ok.s2);obtain ⟨a7,ha7⟩:=hp7.1.ca.ptr;have HA7:=hid ha7;rw [ha7] at e1 HD2;obtain ⟨es,hes⟩:∃ es,cI Q.based.ca=es:=⟨_,rfl⟩;have HES:=hid hes;have hel:es.length≤1000:=by rw [← hes,show Q.based.ca=Q.ca from rfl,HQ.out];exact HC.out.few2
   clear hC hp7 ha7 hes;go_wp2_with fail;refine HD2.out.mono ?_;rintro e w8 ⟨v2,rfl,hsl,hnw,hb8⟩;rw [HES.out] at hsl;obtain ⟨A2,c2,rfl⟩:=Sl.len' hsl;have HV2:=hid (And.intro hsl (And.intro hnw hb8));have HP8:=hid (HP7.out.1.below hb8);clear hsl hnw hb8 e1 el;go_wp2_with fail;obtain ⟨wo,hwo⟩:∃ wo:World,wo=wr:=⟨_,rfl⟩;subst hwo;go_loopw [93] (fun iv wr=>∃ j:Nat,j≤es.length∧iv=.int .i64 j∧PTo w8 L6 (Q.based.tidy (es.take j)) wr) (fun iv _=>es.length - (intOf iv).toNat)
   case atStart=>exact ⟨0,Nat.zero_le _,rfl,PTo.refl HP8.out⟩
   case round=>
    obtain ⟨j,hj,rfl,hto⟩:=hrel;obtain ⟨L9,r1,r2,r3,r4⟩:=hto;by_cases hlt:j<es.length
    ·obtain ⟨b,off,c',he,hbl,hcells⟩:=(fh (HV2.out.1) r4 fun k hk e=>by have:=HV2.out.2.1 k hk;have:=HP7.out.1.lt e;omega).at1 hlt;injection he with he1 he2 he3
     subst he1 he3;have hj0:(0:Int)≤(j:Int):=by omega
     have hj1:(j:Int)<(es.length:Int):=by omega
     have HJ:=hid (And.intro hj hlt);have HT:=hid (rk Q.based es hlt);have hwf:fM (es[j]).n:=HC.out.nums _ (by rw [← HQ.out,show Q.ca=Q.based.ca from rfl,HES.out];exact List.getElem_mem hlt);generalize es[j]=x at *;obtain ⟨xn,xs⟩:=x;have x0:wr.cell? ⟨b,off+j * 2,none⟩=some (.int .i64 xn):=hcells 0 _ rfl;have x1:wr.cell? ⟨b,off+j * 2+1,none⟩=some (.string xs):=hcells 1 _ rfl;have HX:=hid (show Below wr.heap.size wr (wr.alloc (dB ⟨xn,xs⟩))∧(wr.alloc (dB ⟨xn,xs⟩)).heap[wr.heap.size]?=some (dB ⟨xn,xs⟩) from ⟨(Below.refl _ wr).alloc (Nat.le_refl _) _,ah rfl⟩);have HR:=hid (And.intro r1 (And.intro r2 (And.intro r3 r4)));have HWF:=hid hwf;have hth:=fP (es.take j) Q.based;have HTH:=hid (show (Q.based.tidy (es.take j)).head.pages=Q.work.pages by rw [hth.1];rfl);have HSS:=hid (show (Q.based.tidy (es.take j)).size=Q.size from hth.2.1);clear hcells hj he2 r1 r2 r3 r4 hwf hth;go_upto_region 21 with fail
     have hwx:∃ wx,wr.alloc (dB ⟨xn,xs⟩)=wx:=⟨_,rfl⟩;obtain ⟨wx,hwx⟩:=hwx;change Code.wp _ _ _ _ (wr.alloc (dB ⟨xn,xs⟩));rw [hwx] at HX ⊢;clear hwx x0 x1 hbl;have HP9:=hid (HR.out.2.1.below HX.out.1);have hC:=ai HP9.out.blk;have b1:=hC.c1;have b3:=hC.c3;have bl:=hC.lt;rw [HTH.out] at b3;obtain ⟨a9,ha9⟩:=HP9.out.ca.ptr;rw [ha9] at b1;rw [HR.out.1,HP6.out.2.1] at b1 b3 bl;have n0:wx.cell? ⟨wr.heap.size,0,none⟩=some (.int .i64 xn):=aa HX.out.2 0;have nl:=af HX.out.2;have hfr:¬ L9.Fc wr.heap.size:=fun e=>by have:=HR.out.2.1.calt _ e;omega
     have hgpc:¬ L9.Fc L.gp:=fun e=>by have:=HR.out.2.1.apart.pc;rw [HR.out.1,HP6.out.2.1] at this;exact this e
     have HF:=hid (And.intro hfr (And.intro hgpc ha9));have HARM:=hid (show ∀ (wa w9:World) (ca:List On),Below wx.heap.size wx wa→wa.cell? ⟨L.gp,1,none⟩=some (.pointer (some a9))→wa.cell? ⟨wr.heap.size,0,none⟩=some (.int .i64 xn)→ca=(if lj Q.work.pages ⟨xn,xs⟩ then et xn (Q.based.tidy (es.take j)).ca else aD xn (Q.based.tidy (es.take j)).ca)→Ca w9 L9.Fc (.pointer (some a9)) (Q.based.tidy (es.take j)).size ca→Ch L9.Fc wa w9→
       Hid (PTo w8 L6 (Q.based.tidy (es.take (j+1))) w9)∧w9.cell? ⟨L.gp,1,none⟩=some (.pointer (some a9))∧w9.cell? ⟨wr.heap.size,0,none⟩=some (.int .i64 xn) from fun wa w9 ca hwa h1 h2 hca h3 h4=>by
      refine ⟨hid ?_,h4.cell h1 hgpc,h4.cell h2 hfr⟩;rw [HT.out];have e:(Q.based.tidy (es.take j)).tidy1 ⟨xn,xs⟩={ Q.based.tidy (es.take j) with ca:=ca }:=by unfold Pgr.tidy1;rw [HTH.out,hca]
      rw [e];rw [← ha9] at h3;refine PTo.and HR.out.1 HR.out.2.2.1 HR.out.2.2.2 (PTo.pre (PTo.pre ((HP9.out.below hwa).getCa h3 h4) hwa) HX.out.1))
     clear hC hfr hgpc;by_cases hin:xn<(Q.work.pages:Int)
     ·have HCL:=hid (fun (wa:World) (hwa:Below wx.heap.size wx wa)=>qK xn wa (HP9.out.below hwa).ca HWF.out);have HIF:=hid (show et xn (Q.based.tidy (es.take j)).ca=(if lj Q.work.pages ⟨xn,xs⟩ then et xn (Q.based.tidy (es.take j)).ca else aD xn (Q.based.tidy (es.take j)).ca) by unfold lj;rw [if_pos (by simpa using hin)]);rw [ha9] at HCL;clear ha9;go_wp2_with fail;go_region;have f1:wx.drew.cell? ⟨L.gp,1,none⟩=some (.pointer (some a9)):=b1;have f0:wx.drew.cell? ⟨wr.heap.size,0,none⟩=some (.int .i64 xn):=n0;have fl:L.gp<wx.drew.heap.size:=bl;have fn:wr.heap.size<wx.drew.heap.size:=nl;have HF1:=hid (And.intro f1 f0);clear b1 b3 bl n0 nl;go_wp2_with fail
      go_region_held3 (fun w'=>w'.cell? ⟨L.gp,1,none⟩=some (.pointer (some a9))∧w'.cell? ⟨wr.heap.size,0,none⟩=some (.int .i64 xn)) (first | exact ⟨d1,d0⟩ | exact ⟨f1,f0⟩)
       (first
        | (go_at_call 114;(with_reducible refine (HCL.out _ ?ba).mono ?_);(case ba=>exact ((Below.refl wx.heap.size wx).drew).drew);rintro e w9 ⟨rfl,h1,h2⟩;obtain ⟨HR9,d1,d0⟩:=HARM.out _ w9 _ ((Below.refl wx.heap.size wx).drew.drew) HF1.out.1 HF1.out.2 HIF.out h1 h2;clear h1 h2))
      go_wp2_with fail;go_roundw
      case rel=>exact ⟨j+1,by have:=HJ.out;omega,by go_num,HR9.out⟩
      case measure=>simp [intOf];omega
     ·have hin2:(Q.work.pages:Int)≤xn:=by omega
      have HCL:=hid (fun (wa:World) (hwa:Below wx.heap.size wx wa)=>jI xn wa (HP9.out.below hwa).ca HWF.out);have HIF:=hid (show aD xn (Q.based.tidy (es.take j)).ca=(if lj Q.work.pages ⟨xn,xs⟩ then et xn (Q.based.tidy (es.take j)).ca else aD xn (Q.based.tidy (es.take j)).ca) by unfold lj;rw [if_neg (by simpa using hin2)]);rw [ha9] at HCL;clear ha9;go_wp2_with fail;go_region;have f1:wx.drew.cell? ⟨L.gp,1,none⟩=some (.pointer (some a9)):=b1;have f0:wx.drew.cell? ⟨wr.heap.size,0,none⟩=some (.int .i64 xn):=n0;have fl:L.gp<wx.drew.heap.size:=bl;have fn:wr.heap.size<wx.drew.heap.size:=nl;have HF1:=hid (And.intro f1 f0);clear b1 b3 bl n0 nl;go_wp2_with fail
      go_region_held3 (fun w'=>w'.cell? ⟨L.gp,1,none⟩=some (.pointer (some a9))∧w'.cell? ⟨wr.heap.size,0,none⟩=some (.int .i64 xn)) (first | exact ⟨d1,d0⟩ | exact ⟨f1,f0⟩)
       (first
        | (go_at_call 115;(with_reducible refine (HCL.out _ ?ba).mono ?_);(case ba=>exact ((Below.refl wx.heap.size wx).drew).drew);rintro e w9 ⟨rfl,h1,h2⟩;obtain ⟨HR9,d1,d0⟩:=HARM.out _ w9 _ ((Below.refl wx.heap.size wx).drew.drew) HF1.out.1 HF1.out.2 HIF.out h1 h2;clear h1 h2))
      go_wp2_with fail;go_roundw
      case rel=>exact ⟨j+1,by have:=HJ.out;omega,by go_num,HR9.out⟩
      case measure=>simp [intOf];omega
    ·obtain rfl:j=es.length:=by omega
     rw [List.take_length] at r2;have hth:=fP es Q.based;have HEND:=hid (ry wr r2);rw [r1,HP6.out.2.1] at HEND;have HR:=hid (And.intro r1 (And.intro r2 (And.intro r3 r4)));unfold au at HEND;clear r1 r2 r3 r4 hlt hj;go_wp2_with fail;refine HEND.out.mono ?_;rintro e w9 ⟨rfl,hr⟩;obtain ⟨L5,s1,s2,s3,s4⟩:=hr;have hC:=ai s2.blk;have b9:=hC.c9;have bl:=hC.lt;rw [s1,HR.out.1,HP6.out.2.1] at b9 bl;have HTR:=hid (me w9 s2 (by
      show (Q.based.tidy es).d.size aI≤((Q.based.tidy es).head.pages:Int);rw [hth.1,hth.2.2];show Q.d.size aI≤(Q.work.pages:Int);rw [HQ.out];exact HC.out.size))
     rw [s1,HR.out.1,HP6.out.2.1] at HTR;unfold au at HTR;have HFIN:=hid (show PTo w L P.com0 w9 from by
      have e:P.com0=(Q.based.tidy es).ended:=by unfold Pgr.com0;rw [← HQ.out,← HES.out];rfl
      rw [e];refine PTo.and HP6.out.2.1 HP6.out.2.2.1 HP6.out.2.2.2 ?_;refine PTo.and rfl (fun _ hk=>.inl hk) (HP7.out.2.mono fun k _ e=>.inl (e.trans HP6.out.2.1.symm)) ?_;refine PTo.pre ?_ HV2.out.2.2;refine PTo.and HR.out.1 HR.out.2.2.1 HR.out.2.2.2 ?_;exact ⟨L5,s1,s2,s3,s4⟩)
     clear s1 s2 s3 s4 hC hth;go_wp2_with fail;refine HTR.out.mono ?_;rintro e w10 ⟨rfl,hb⟩;have HFF:=hid (HFIN.out.post hb);clear hb;go_wp2_with fail;go_ret;exact ⟨rfl,HFF.out⟩
end Go.Proofs.YtdmhbgpejppbkaaGreat
namespace Go.Proofs.YtdmhbgpejppbkaaGreat
open Go.Lib (hid)
open Go.RowKit Go.Maps
def ut (H:He):Obj:=.cells #[.int .i64 1,.int .i64 H.pages,.int .i64 H.trunk,.int .i64 H.spare,.int .i64 H.root,.int .u64 H.change] 38 (0,0)
def Pgr.found (P:Pgr) (H:He):Pgr:={ P.ended with ca:=[],base:=H.pages,head:=H }
theorem mj (H:He) (w:World) {L:PgL} {P:Pgr} (h:PgIs w L P) (hf:P.d.Fine) (hj0:P.d.file bg=none) (hon:bm P.d 0 (bI H)) (hg:H.Good) (hm1:H.mode=1):
  Calls Tryz.prog 45 #[au L.gp] w fun e w'=>e=.returned (.int .i64 0)∧PTo w L (P.found H) w':=by
 have HE:=hid (fo w h);have HH:=hid h;have hj:P.d.size bg=-1:=Dk.size_none hj0;have hdn:P.d.down=false:=hf.up;obtain ⟨f,hff,hf0⟩:=hon;have hfp:0<f.now.length:=(List.getElem?_eq_some_iff.1 hf0).1;obtain ⟨N,hN⟩:∃ N:Nat,f.now.length=N+1:=⟨f.now.length - 1,by omega⟩;have hm:P.d.size aI=((N:Int)+1):=by rw [Dk.size_some hff,hN];rfl
 have HON:=hid (show bm P.d 0 (bI H) from ⟨f,hff,hf0⟩);have HG:=hid (And.intro hg (And.intro hm1 hf));have hfp2:decide ((N:Int)+1≤0)=false:=decide_eq_false (by omega);have hfp3:¬ ((N:Int)+1≤0):=by omega
 have HSZ:=hid (And.intro hj (And.intro hm hdn));have hl0:=(ai h.blk).lt;unfold au at *;clear h hdn hj hm hf hj0 hff hf0 hg hm1 hfp hN;go_enter Tryz.func45,Tryz.ntmps45;go_wp2_with fail;refine HE.out.mono ?_;rintro e w1 ⟨rfl,hp,hc⟩;have HP1:=hid (And.intro hp hc);have c1:=(ai hp.blk).c1;have hl1:=(ai hp.blk).lt;simp only [PgL.bare] at c1 hl1;have HCL:=hid (lD w1 hp.ca (by have:=hp.ok.s1;omega));simp only [PgL.bare] at HCL;clear hp hc;go_wp2_with fail;refine HCL.out.mono ?_;rintro e w2 ⟨F',rfl,hca,hF,hch⟩;obtain ⟨G,-,p2,f2,k2⟩:=HP1.out.1.putCa hca hF hch;have HP2:=hid p2;have HT2:=hid (And.intro f2 k2);clear hca hF hch p2 f2 k2;have hg2:(({ L.bare with Fc:=fun k=>k ∈ G }:PgL)).gp=L.gp:=rfl;have HG2:=hid hg2;generalize ({ L.bare with Fc:=fun k=>k ∈ G }:PgL)=L2 at *;go_wp2_with fail;refine (jx w2).mono ?_;rintro e w3 ⟨rfl,hb3⟩;have HB3:=hid hb3;have HP3:=hid (HP2.out.below hb3);have hC:=ai HP3.out.blk;have c2:=hC.c2;have c3:=hC.c3;have c4:=hC.c4;have c5:=hC.c5;have c6:=hC.c6;have c7:=hC.c7;have c8:=hC.c8;have c9:=hC.c9;have z2:=hC.fz 2;have z3:=hC.fz 3;have z4:=hC.fz 4;have z5:=hC.fz 5;have z6:=hC.fz 6;have z7:=hC.fz 7;have z8:=hC.fz 8;have z9:=hC.fz 9;have hl3:=hC.lt;have hq:=qk HP3.out;rw [hg2] at c2 c3 c4 c5 c6 c7 c8 c9 z2 z3 z4 z5 z6 z7 z8 z9 hl3 hq;have HQ:=hid hq;unfold rL at HQ;unfold eH ko;clear hC hb3 hg2 hq c1;go_upto_region 4 with fail
 have hw4:∃ w4,rL w3 L.gp=w4:=⟨_,rfl⟩;obtain ⟨w4,hw4⟩:=hw4;unfold rL at hw4;rw [hw4] at HQ ⊢;clear hw4 c2 c3 c4 c5 c6 c7 c8 c9 z2 z3 z4 z5 z6 z7 z8 z9 hl3 hl0;have c0:=(ai HQ.out.1.blk).c0;have hl4:=(ai HQ.out.1.blk).lt;rw [HG2.out] at c0 hl4;have HSJ:=hid (cn bg (by decide) w4 HQ.out.1.dk);have HSM:=hid (cn aI (by decide) w4 HQ.out.1.dk);have HDN:=hid (bL w4 HQ.out.1.dk);simp only [Pgr.ended] at HSJ HSM HDN;rw [HSZ.out.1] at HSJ;rw [HSZ.out.2.1] at HSM;rw [HSZ.out.2.2] at HDN
 have HF:=hid (show PTo w L { P.ended with ca:=[],base:=0,head:=⟨1,1,0,0,0,0⟩ } w4 from by
  refine PTo.and (L:=L) (L1:=L.bare) rfl (fun k hk=>?_) (HP1.out.2.mono fun k _ e=>.inl e) (PTo.and (L:=L.bare) HG2.out HT2.out.1 HT2.out.2 (PTo.pre ?_ HB3.out))
  ·rcases hk with hk | hk | hk | hk | hk
   ·exact .inl (.inl hk)
   ·exact .inl (.inr (.inl hk))
   ·exact .inl (.inr (.inr (.inl hk)))
   ·exact hk.elim
   ·rcases hk with hk | hk
    ·cases hk
    ·cases hk
  ·exact ⟨L2,rfl,HQ.out.1,fun _ hk=>.inl hk,HQ.out.2.mono fun k _ e=>.inl (e.trans HG2.out.symm)⟩)
 unfold dQ at HSJ HSM;unfold au at c0;go_wp2_with fail;refine HSJ.out.mono ?_;rintro e w5 ⟨rfl,rfl⟩;go_wp2_with fail;refine HDN.out.mono ?_;rintro e w5 ⟨rfl,rfl⟩;go_wp2_with fail;refine HSM.out.mono ?_;rintro e w5 ⟨rfl,rfl⟩;have HMN:=hid (jj 0 (bI H) w4 HQ.out.1 HG.out.2.2 HON.out (by omega) (iH H));rw [HG2.out] at HMN;unfold au at HMN;go_wp2_with fail;refine HMN.out.mono ?_;rintro e w6 ⟨rfl,hto⟩
 have HT6:=hid (show PTo w L { P.ended with ca:=[],base:=0,head:=⟨1,1,0,0,0,0⟩ } w6 from by
  refine PTo.and (L:=L) (L1:=L.bare) rfl (fun k hk=>?_) (HP1.out.2.mono fun k _ e=>.inl e) (PTo.and (L:=L.bare) HG2.out HT2.out.1 HT2.out.2 (PTo.pre ?_ HB3.out))
  ·rcases hk with hk | hk | hk | hk | hk
   ·exact .inl (.inl hk)
   ·exact .inl (.inr (.inl hk))
   ·exact .inl (.inr (.inr (.inl hk)))
   ·exact hk.elim
   ·rcases hk with hk | hk
    ·cases hk
    ·cases hk
  ·exact PTo.and (L:=L2) (L1:=L2) rfl (fun _ hk=>.inl hk) (HQ.out.2.mono fun k _ e=>.inl (e.trans HG2.out.symm)) hto)
 clear hto;have HDC:=hid (fun w=>qm H w HG.out.1);unfold eH ko at HDC;go_wp2_with fail;refine (HDC.out _).mono ?_;rintro e w7 ⟨rfl,hb7⟩;have HB7:=hid hb7;clear hb7;have hm1:(H.mode:Int)=1:=by have:=HG.out.2.1;omega
 have HAL:=hid (show Below w7.heap.size w7 (w7.alloc (ut H))∧(w7.alloc (ut H)).heap[w7.heap.size]?=some (ut H) from ⟨(Below.refl _ w7).alloc (Nat.le_refl _) _,ah rfl⟩);go_upto_region 16 with fail
 have hwz:∃ wz,w7.alloc (ut H)=wz:=⟨_,rfl⟩;obtain ⟨wz,hwz⟩:=hwz;change Code.wp _ _ _ _ (w7.alloc (ut H));rw [hwz] at HAL ⊢;clear hwz c0 hl4;obtain ⟨L9,r1,r2,r3,r4⟩:=(HT6.out.post HB7.out).post HAL.out.1;have HR:=hid (And.intro r1 (And.intro r2 (And.intro r3 r4)));have hC:=ai r2.blk;have c2:=hC.c2;have c3:=hC.c3;have c4:=hC.c4;have c5:=hC.c5;have c6:=hC.c6;have c7:=hC.c7;have c8:=hC.c8;have z2:=hC.fz 2;have z3:=hC.fz 3;have z4:=hC.fz 4;have z5:=hC.fz 5;have z6:=hC.fz 6;have z7:=hC.fz 7;have z8:=hC.fz 8;have hl9:=hC.lt;have y0:wz.cell? ⟨w7.heap.size,0,none⟩=some (.int .i64 1):=aa HAL.out.2 0;have y1:wz.cell? ⟨w7.heap.size,1,none⟩=some (.int .i64 H.pages):=aa HAL.out.2 1;have y2:wz.cell? ⟨w7.heap.size,2,none⟩=some (.int .i64 H.trunk):=aa HAL.out.2 2;have y3:wz.cell? ⟨w7.heap.size,3,none⟩=some (.int .i64 H.spare):=aa HAL.out.2 3;have y4:wz.cell? ⟨w7.heap.size,4,none⟩=some (.int .i64 H.root):=aa HAL.out.2 4;have y5:wz.cell? ⟨w7.heap.size,5,none⟩=some (.int .u64 H.change):=aa HAL.out.2 5;have yl:=af HAL.out.2;rw [r1] at c2 c3 c4 c5 c6 c7 c8 z2 z3 z4 z5 z6 z7 z8 hl9;have hp96:H.pages≤4096:=HG.out.1.pages
 have HFIN:=hid (show ∀ wf,wf=((((((wz.setCell ⟨L9.gp,2,none⟩ (.int .i64 1)).setCell ⟨L9.gp,3,none⟩ (.int .i64 H.pages)).setCell ⟨L9.gp,4,none⟩ (.int .i64 H.trunk)).setCell ⟨L9.gp,5,none⟩ (.int .i64 H.spare)).setCell ⟨L9.gp,6,none⟩ (.int .i64 H.root)).setCell ⟨L9.gp,7,none⟩ (.int .u64 H.change)).setCell ⟨L9.gp,8,none⟩ (.int .i64 H.pages)→PTo w L (P.found H) wf from fun wf hwf=>by
  have hc:Ch (fun k=>k=L9.gp) wz wf:=by rw [hwf];exact (((((((Ch.refl (fun k=>k=L9.gp) wz).setCell (p:=⟨L9.gp,2,none⟩) rfl _).setCell (p:=⟨L9.gp,3,none⟩) rfl _).setCell (p:=⟨L9.gp,4,none⟩) rfl _).setCell (p:=⟨L9.gp,5,none⟩) rfl _).setCell (p:=⟨L9.gp,6,none⟩) rfl _).setCell (p:=⟨L9.gp,7,none⟩) rfl _).setCell (p:=⟨L9.gp,8,none⟩) rfl _
  have hbk:wf.heap[L9.gp]?=some (co L9 (P.found H)):=by
   have h1:=ae (mF r2.blk H) 8 (.int .i64 H.pages);rw [HG.out.2.1] at h1;rw [hwf];have e:co L9 (P.found H)=co L9 { P.found H with head:={ H with mode:=1 } }:=by rw [← HG.out.2.1];rfl
   rw [e];exact h1
  exact PTo.and r1 r3 r4 ⟨L9,rfl,r2.setBlk (P':=P.found H) hc hbk rfl rfl rfl rfl rfl ⟨r2.ok.s1,r2.ok.s2,hp96,hp96,r2.ok.wp,r2.ok.nos⟩,fun _ hk=>.inl hk,hc.mono fun k _ e=>.inl e⟩)
 rw [r1] at HFIN;clear hC r1 r2 r3 r4 hp96;go_wp2_with fail;go_region;have HFF:=hid (HFIN.out _ rfl);obtain ⟨wf,hwf⟩:∃ wf,wf=(((((((wz.setCell ⟨L.gp,2,none⟩ (.int .i64 1)).setCell ⟨L.gp,3,none⟩ (.int .i64 H.pages)).setCell ⟨L.gp,4,none⟩ (.int .i64 H.trunk)).setCell ⟨L.gp,5,none⟩ (.int .i64 H.spare)).setCell ⟨L.gp,6,none⟩ (.int .i64 H.root)).setCell ⟨L.gp,7,none⟩ (.int .u64 H.change)).setCell ⟨L.gp,8,none⟩ (.int .i64 H.pages)).drew:=⟨_,rfl⟩;have hff:PTo w L (P.found H) wf:=by rw [hwf];exact HFF.out.post ((Below.refl _ _).drew)
 rw [← hwf];have HF9:=hid hff;clear hwf hff HFF;go_wp2_with fail;go_ret;exact ⟨rfl,HF9.out⟩
theorem mn (H:He) (size:Int) (w:World) {D:DkM} {d:Dk} (h:DkIs w D d) (hf:d.Fine) (hj0:d.file bg=none) (hon:bm d 0 (bI H)) (hg:H.Good) (hm1:H.mode=1):
  Calls Tryz.prog 11 #[au D.gd,.int .i64 size] w fun e w'=>∃ L,e=.returned (.tuple #[au L.gp,.int .i64 0])∧PgIs w' L ((Pgr.fresh d size D.gd).found H)∧(∀ k,L.F k→D.F k∨w.heap.size≤k)∧Ch D.F w w':=by
 have HH:=hid h;have HD:=hid (And.intro hf (And.intro hj0 (And.intro hon (And.intro hg hm1))));unfold au;clear h hf hj0 hon hg hm1;go_enter Tryz.func11,Tryz.ntmps11;go_wp2_with fail;refine (qJ size w).mono ?_;rintro e w1 ⟨v,Fc,rfl,hca,hF,hb1⟩;obtain ⟨a,rfl⟩:=hca.ptr;have HD1:=hid (HH.out.ch (Ch.of_below (S:=fun _=>False) hb1) (fun _ _ h=>h));have HL:=hid (cr w1 HD1.out);have HB1:=hid hb1;have HCA:=hid hca;have HF1:=hid hF;clear hca hF hb1;go_wp2_with fail;refine HL.out.mono ?_;rintro e w2 ⟨rfl,rfl⟩;obtain ⟨G,hG1,hG2⟩:=HCA.out.lt;have hsz:=jQ size
 have hPI:PgIs (w1.alloc (co ⟨w1.heap.size,D,.pointer (some a),fun k=>k ∈ G,none,.slice none 0 0,[]⟩ (Pgr.fresh d size D.gd))) ⟨w1.heap.size,D,.pointer (some a),fun k=>k ∈ G,none,.slice none 0 0,[]⟩ (Pgr.fresh d size D.gd):=by
  have hA:Below w1.heap.size w1 (w1.alloc (co ⟨w1.heap.size,D,.pointer (some a),fun k=>k ∈ G,none,.slice none 0 0,[]⟩ (Pgr.fresh d size D.gd))):=(Below.refl _ w1).alloc (Nat.le_refl _) _;have hDl:∀ k,D.F k→k<w.heap.size:=fun k hk=>HH.out.lt hk
  have hws:=HB1.out.size;refine PgIs.build ⟨hsz.1,hsz.2,Nat.zero_le _,Nat.zero_le _,Nat.zero_le _,Nat.zero_le _⟩ (ah rfl) (HD1.out.ch (Ch.of_below (S:=fun _=>False) hA) (fun _ _ h=>h)) (hG2.below hA) (fun k hk=>Nat.lt_of_lt_of_le (hG1 k hk).1 hA.size) (.inl ⟨rfl,rfl⟩) (SvIs.nil _) ⟨fun hk=>?_,fun hk=>?_,fun hk=>hk,fun hk=>?_,fun k hk hc=>?_,fun _ _ hc=>hc,fun k _ hc=>?_,fun _ _ hc=>hc,fun k _ hc=>?_,fun _ hk=>hk.elim⟩ rfl
  ·have:=hDl _ hk;simp only at this;omega
  ·have:=(hG1 _ hk).1;simp only at this;omega
  ·rcases hk with hk | hk <;> cases hk
  ·have:=hDl k hk;have:=HF1.out k (hG1 k hc).2;omega
  ·rcases hc with hc | hc <;> cases hc
  ·rcases hc with hc | hc <;> cases hc
 have HPI:=hid hPI;have HF0:=hid (mj H _ hPI HD.out.1 HD.out.2.1 HD.out.2.2.1 HD.out.2.2.2.1 HD.out.2.2.2.2);have HGG:=hid (fun k (hk:k ∈ G)=>HF1.out k (hG1 k hk).2);unfold au at HF0;clear hPI hG1 hG2 hsz;go_wp2_with fail;refine HF0.out.mono ?_;rintro e w2 ⟨rfl,L2,g2,p2,f2,k2⟩;have HT:=hid (And.intro p2 (And.intro f2 k2));have HG:=hid g2;clear g2 p2 f2 k2;go_wp2_with fail;go_ret2;have hws:=HB1.out.size
 have hF2:∀ k,L2.F k→D.F k∨w.heap.size≤k:=fun k hk=>by
  rcases HT.out.2.1 k hk with hk | hk
  ·rcases hk with hk | hk | hk | hk | hk
   ·right;have hk:k=w1.heap.size:=hk;omega
   ·exact .inl hk
   ·exact .inr (HGG.out k hk)
   ·exact hk.elim
   ·rcases hk with hk | hk <;> cases hk
  ·right;simp at hk;omega
 exact ⟨L2,by rw [HG.out];rfl,HT.out.1,hF2,((Ch.of_below HB1.out).trans (Ch.of_below ((Below.refl _ w1).alloc (Nat.le_refl _) _))).then HT.out.2.2 fun k hk=>by
  rcases hk with hk | hk | hk | hk | hk
  ·right;have hk:k=w1.heap.size:=hk;omega
  ·exact .inl hk
  ·exact .inr (HGG.out k hk)
  ·exact hk.elim
  ·rcases hk with hk | hk <;> cases hk⟩
theorem ke (w:World) {L:PgL} {P:Pgr} (h:PgIs w L P) (hu:P.Up) (hb:P.busy=false):
  Calls Tryz.prog 36 #[au L.gp] w fun e w'=>e=.returned (.int .i64 40)∧Below w.heap.size w w':=by
 have hA:Below w.heap.size w (w.alloc (.cells #[.bool true] 4)):=(Below.refl _ w).alloc (Nat.le_refl _) _;have hX:(w.alloc (.cells #[.bool true] 4)).heap[w.heap.size]?=some (.cells #[.bool true] 4 (0,0)):=ah rfl;have HB:=hid (aN true w.heap.size _ (h.below hA) hu (aa hX 0) (af hX));rw [hb,show fG (some true) false=40 from rfl] at HB;have HA:=hid hA;unfold au at *;clear h hu hb hA hX;go_enter Tryz.func36,Tryz.ntmps36;go_wp2_with fail;refine HB.out.mono ?_;rintro e w1 ⟨rfl,hb1⟩;have HB1:=hid (HA.out.trans (hb1.mono HA.out.size));clear hb1;go_wp2_with fail;go_ret;exact ⟨rfl,HB1.out⟩
theorem kh (w:World) {L:PgL} {P:Pgr} (h:PgIs w L P) (hu:P.Up) (hb:P.busy=true) (hwr:P.wrote=true) (hc:CanCom P):
  Calls Tryz.prog 36 #[au L.gp] w fun e w'=>e=.returned (.int .i64 0)∧PTo w L P.com0 w':=by
 have HCC:=hid (And.intro hc hwr);clear hc hwr;have hA:Below w.heap.size w (w.alloc (.cells #[.bool true] 4)):=(Below.refl _ w).alloc (Nat.le_refl _) _;have hX:(w.alloc (.cells #[.bool true] 4)).heap[w.heap.size]?=some (.cells #[.bool true] 4 (0,0)):=ah rfl;have HB:=hid (aN true w.heap.size _ (h.below hA) hu (aa hX 0) (af hX));rw [hb,show fG (some true) true=0 from rfl] at HB;have HA:=hid hA;have HH:=hid h;have HU:=hid (And.intro hu hb);unfold au at *;clear h hu hb hA hX;go_enter Tryz.func36,Tryz.ntmps36;go_wp2_with fail;refine HB.out.mono ?_;rintro e w1 ⟨rfl,hb1⟩;have HB1:=hid (HA.out.trans (hb1.mono HA.out.size));have HP1:=hid (HH.out.below HB1.out);have hC:=ai HP1.out.blk;have hlt:=hC.lt;have c14:=hC.c14;rw [HCC.out.2] at c14;have HCM:=hid (kd w1 HP1.out HCC.out.1);unfold au at HCM;clear hb1 hC;go_wp2_with fail;refine HCM.out.mono ?_;rintro e w2 ⟨rfl,hr⟩;have HR:=hid (PTo.pre hr HB1.out);clear hr;go_wp2_with fail;go_ret;exact ⟨rfl,HR.out⟩
end Go.Proofs.YtdmhbgpejppbkaaGreat
