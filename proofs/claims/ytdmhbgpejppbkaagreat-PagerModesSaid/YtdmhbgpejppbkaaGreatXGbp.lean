/- pager: find and Open on a disk that holds pages; Commit. journal: what is found, a sector more (found.add). -/
import Derived.Test.YtdmhbgpejppbkaaGreatXGbj
import Derived.Test.YtdmhbgpejppbkaaGreatXGay
import Derived.Test.YtdmhbgpejppbkaaGreatXGaz
import Derived.Test.YtdmhbgpejppbkaaGreatXGba
import Derived.Test.YtdmhbgpejppbkaaGreatXGbc
set_option maxRecDepth 100000
set_option maxHeartbeats 4000000
namespace Go.Proofs.YtdmhbgpejppbkaaGreat
open Go.Lib (hid)
open Go.RowKit Go.Maps
def BC (H:He):Obj:=.cells #[.int .i64 1,.int .i64 H.pages,.int .i64 H.trunk,.int .i64 H.spare,.int .i64 H.root,.int .u64 H.change] 38 (0,0)
def Pgr.found (P:Pgr) (H:He):Pgr:={ P.ended with ca:=[],base:=H.pages,head:=H }
theorem rA (H:He) (w:World) {L:PgL} {P:Pgr} (h:PgIs w L P) (hlg:P.lg=none) (hf:P.d.Fine) (hj0:P.d.file aQ=none) (hon:aF P.d 0 (bh H)) (hg:H.Good) (hm1:H.mode=1):
  Calls Tryz.prog 45 #[ai L.gp] w fun e w'=>e=.returned (.int .i64 0)∧PTo w L (P.found H) w':=by
 have HE:=hid (gg w h);have HH:=hid h;have hj:P.d.size aQ=-1:=Dk.size_none hj0;have hdn:P.d.down=false:=hf.up;obtain ⟨f,hff,hf0⟩:=hon;have hfp:0<f.now.length:=(List.getElem?_eq_some_iff.1 hf0).1;obtain ⟨N,hN⟩:∃ N:Nat,f.now.length=N+1:=⟨f.now.length - 1,by omega⟩;have hm:P.d.size aA=((N:Int)+1):=by rw [Dk.size_some hff,hN];rfl
 have HON:=hid (show aF P.d 0 (bh H) from ⟨f,hff,hf0⟩);have HG:=hid (And.intro hg (And.intro hm1 hf));have hfp2:decide ((N:Int)+1≤0)=false:=decide_eq_false (by omega);have hfp3:¬ ((N:Int)+1≤0):=by omega
 have HSZ:=hid (And.intro hj (And.intro hm hdn));have hl0:=(ag h.blk).lt;have HLG:=hid (show P.ended.lg=none from hlg);unfold ai at *;clear h hlg hdn hj hm hf hj0 hff hf0 hg hm1 hfp hN;go_enter Tryz.func45,Tryz.ntmps45;go_wp2_with fail;refine HE.out.mono ?_;rintro e w1 ⟨rfl,hp,hc⟩;have HP1:=hid (And.intro hp hc);have c1:=(ag hp.blk).c1;have hl1:=(ag hp.blk).lt;simp only [PgL.bare] at c1 hl1;have HCL:=hid (eC w1 hp.ca (by have:=hp.ok.s1;omega));simp only [PgL.bare] at HCL;clear hp hc;go_wp2_with fail;refine HCL.out.mono ?_;rintro e w2 ⟨F',rfl,hca,hF,hch⟩;obtain ⟨G,-,p2,f2,k2⟩:=HP1.out.1.putCa hca hF hch;have HP2:=hid p2;have HT2:=hid (And.intro f2 k2);clear hca hF hch p2 f2 k2;have hg2:(({ L.bare with Fc:=fun k=>k ∈ G }:PgL)).gp=L.gp:=rfl;have HG2:=hid hg2;generalize ({ L.bare with Fc:=fun k=>k ∈ G }:PgL)=L2 at *;go_wp2_with fail;refine (nD w2).mono ?_;rintro e w3 ⟨rfl,hb3⟩;have HB3:=hid hb3;have HP3:=hid (HP2.out.below hb3);have hC:=ag HP3.out.blk;have c2:=hC.c2;have c3:=hC.c3;have c4:=hC.c4;have c5:=hC.c5;have c6:=hC.c6;have c7:=hC.c7;have c8:=hC.c8;have c9:=hC.c9;have z2:=hC.fz 2;have z3:=hC.fz 3;have z4:=hC.fz 4;have z5:=hC.fz 5;have z6:=hC.fz 6;have z7:=hC.fz 7;have z8:=hC.fz 8;have z9:=hC.fz 9;have hl3:=hC.lt;have hq:=wN HP3.out HLG.out;rw [hg2] at c2 c3 c4 c5 c6 c7 c8 c9 z2 z3 z4 z5 z6 z7 z8 z9 hl3 hq;have HQ:=hid hq;unfold yI at HQ;unfold fJ lN;clear hC hb3 hg2 hq c1;go_upto_region 4 with fail
 have hw4:∃ w4,yI w3 L.gp=w4:=⟨_,rfl⟩;obtain ⟨w4,hw4⟩:=hw4;unfold yI at hw4;rw [hw4] at HQ ⊢;clear hw4 c2 c3 c4 c5 c6 c7 c8 c9 z2 z3 z4 z5 z6 z7 z8 z9 hl3 hl0;have c0:=(ag HQ.out.1.blk).c0;have hl4:=(ag HQ.out.1.blk).lt;rw [HG2.out] at c0 hl4;have HSJ:=hid (bp aQ (by decide) w4 HQ.out.1.dk);have HSM:=hid (bp aA (by decide) w4 HQ.out.1.dk);have HDN:=hid (co w4 HQ.out.1.dk);simp only [Pgr.ended] at HSJ HSM HDN;rw [HSZ.out.1] at HSJ;rw [HSZ.out.2.1] at HSM;rw [HSZ.out.2.2] at HDN
 have HF:=hid (show PTo w L { P.ended with ca:=[],base:=0,head:=⟨1,1,0,0,0,0⟩ } w4 from by
  refine PTo.and (L:=L) (L1:=L.bare) rfl (fun k hk=>?_) (HP1.out.2.mono fun k _ e=>.inl e) (PTo.and (L:=L.bare) HG2.out HT2.out.1 HT2.out.2 (PTo.pre ?_ HB3.out))
  ·rcases hk with hk | hk | hk | hk | hk | hk
   ·exact .inl (.inl hk)
   ·exact .inl (.inr (.inl hk))
   ·exact .inl (.inr (.inr (.inl hk)))
   ·exact hk.elim
   ·rcases hk with hk | hk
    ·cases hk
    ·cases hk
   ·exact .inl (.inr (.inr (.inr (.inr (.inr hk)))))
  ·exact ⟨L2,rfl,HQ.out.1,fun _ hk=>.inl hk,HQ.out.2.mono fun k _ e=>.inl (e.trans HG2.out.symm)⟩)
 unfold cZ at HSJ HSM;unfold ai at c0;go_wp2_with fail;refine HSJ.out.mono ?_;rintro e w5 ⟨rfl,rfl⟩;go_wp2_with fail;refine HDN.out.mono ?_;rintro e w5 ⟨rfl,rfl⟩;go_wp2_with fail;refine HSM.out.mono ?_;rintro e w5 ⟨rfl,rfl⟩;have HMN:=hid (ju 0 (bh H) w4 HQ.out.1 HG.out.2.2 HON.out (by omega) (eW H));rw [HG2.out] at HMN;unfold ai at HMN;go_wp2_with fail;refine HMN.out.mono ?_;rintro e w6 ⟨rfl,hto⟩
 have HT6:=hid (show PTo w L { P.ended with ca:=[],base:=0,head:=⟨1,1,0,0,0,0⟩ } w6 from by
  refine PTo.and (L:=L) (L1:=L.bare) rfl (fun k hk=>?_) (HP1.out.2.mono fun k _ e=>.inl e) (PTo.and (L:=L.bare) HG2.out HT2.out.1 HT2.out.2 (PTo.pre ?_ HB3.out))
  ·rcases hk with hk | hk | hk | hk | hk | hk
   ·exact .inl (.inl hk)
   ·exact .inl (.inr (.inl hk))
   ·exact .inl (.inr (.inr (.inl hk)))
   ·exact hk.elim
   ·rcases hk with hk | hk
    ·cases hk
    ·cases hk
   ·exact .inl (.inr (.inr (.inr (.inr (.inr hk)))))
  ·exact PTo.and (L:=L2) (L1:=L2) rfl (fun _ hk=>.inl hk) (HQ.out.2.mono fun k _ e=>.inl (e.trans HG2.out.symm)) hto)
 clear hto;have HDC:=hid (fun w=>wO H w HG.out.1);unfold fJ lN at HDC;go_wp2_with fail;refine (HDC.out _).mono ?_;rintro e w7 ⟨rfl,hb7⟩;have HB7:=hid hb7;clear hb7;have hm1:(H.mode:Int)=1:=by have:=HG.out.2.1;omega
 have HAL:=hid (show Below w7.heap.size w7 (w7.alloc (BC H))∧(w7.alloc (BC H)).heap[w7.heap.size]?=some (BC H) from ⟨(Below.refl _ w7).alloc (Nat.le_refl _) _,af rfl⟩);go_upto_region 16 with fail
 have hwz:∃ wz,w7.alloc (BC H)=wz:=⟨_,rfl⟩;obtain ⟨wz,hwz⟩:=hwz;change Code.wp _ _ _ _ (w7.alloc (BC H));rw [hwz] at HAL ⊢;clear hwz c0 hl4;obtain ⟨L9,r1,r2,r3,r4⟩:=(HT6.out.post HB7.out).post HAL.out.1;have HR:=hid (And.intro r1 (And.intro r2 (And.intro r3 r4)));have hC:=ag r2.blk;have c2:=hC.c2;have c3:=hC.c3;have c4:=hC.c4;have c5:=hC.c5;have c6:=hC.c6;have c7:=hC.c7;have c8:=hC.c8;have z2:=hC.fz 2;have z3:=hC.fz 3;have z4:=hC.fz 4;have z5:=hC.fz 5;have z6:=hC.fz 6;have z7:=hC.fz 7;have z8:=hC.fz 8;have hl9:=hC.lt;have y0:wz.cell? ⟨w7.heap.size,0,none⟩=some (.int .i64 1):=aa HAL.out.2 0;have y1:wz.cell? ⟨w7.heap.size,1,none⟩=some (.int .i64 H.pages):=aa HAL.out.2 1;have y2:wz.cell? ⟨w7.heap.size,2,none⟩=some (.int .i64 H.trunk):=aa HAL.out.2 2;have y3:wz.cell? ⟨w7.heap.size,3,none⟩=some (.int .i64 H.spare):=aa HAL.out.2 3;have y4:wz.cell? ⟨w7.heap.size,4,none⟩=some (.int .i64 H.root):=aa HAL.out.2 4;have y5:wz.cell? ⟨w7.heap.size,5,none⟩=some (.int .u64 H.change):=aa HAL.out.2 5;have yl:=ab HAL.out.2;rw [r1] at c2 c3 c4 c5 c6 c7 c8 z2 z3 z4 z5 z6 z7 z8 hl9;have hp96:H.pages≤4096:=HG.out.1.pages
 have HFIN:=hid (show ∀ wf,wf=((((((wz.setCell ⟨L9.gp,2,none⟩ (.int .i64 1)).setCell ⟨L9.gp,3,none⟩ (.int .i64 H.pages)).setCell ⟨L9.gp,4,none⟩ (.int .i64 H.trunk)).setCell ⟨L9.gp,5,none⟩ (.int .i64 H.spare)).setCell ⟨L9.gp,6,none⟩ (.int .i64 H.root)).setCell ⟨L9.gp,7,none⟩ (.int .u64 H.change)).setCell ⟨L9.gp,8,none⟩ (.int .i64 H.pages)→PTo w L (P.found H) wf from fun wf hwf=>by
  have hc:Ch (fun k=>k=L9.gp) wz wf:=by rw [hwf];exact (((((((Ch.refl (fun k=>k=L9.gp) wz).setCell (p:=⟨L9.gp,2,none⟩) rfl _).setCell (p:=⟨L9.gp,3,none⟩) rfl _).setCell (p:=⟨L9.gp,4,none⟩) rfl _).setCell (p:=⟨L9.gp,5,none⟩) rfl _).setCell (p:=⟨L9.gp,6,none⟩) rfl _).setCell (p:=⟨L9.gp,7,none⟩) rfl _).setCell (p:=⟨L9.gp,8,none⟩) rfl _
  have hbk:wf.heap[L9.gp]?=some (bX L9 (P.found H)):=by
   have h1:=ae (mp r2.blk H) 8 (.int .i64 H.pages);rw [HG.out.2.1] at h1;rw [hwf];have e:bX L9 (P.found H)=bX L9 { P.found H with head:={ H with mode:=1 } }:=by rw [← HG.out.2.1];rfl
   rw [e];exact h1
  exact PTo.and r1 r3 r4 ⟨L9,rfl,r2.setBlk (P':=P.found H) hc hbk rfl rfl rfl rfl rfl ⟨r2.ok.s1,r2.ok.s2,hp96,hp96,r2.ok.wp,r2.ok.nos⟩,fun _ hk=>.inl hk,hc.mono fun k _ e=>.inl e⟩)
 rw [r1] at HFIN;clear hC r1 r2 r3 r4 hp96;go_wp2_with fail;go_region;have HFF:=hid (HFIN.out _ rfl);obtain ⟨wf,hwf⟩:∃ wf,wf=(((((((wz.setCell ⟨L.gp,2,none⟩ (.int .i64 1)).setCell ⟨L.gp,3,none⟩ (.int .i64 H.pages)).setCell ⟨L.gp,4,none⟩ (.int .i64 H.trunk)).setCell ⟨L.gp,5,none⟩ (.int .i64 H.spare)).setCell ⟨L.gp,6,none⟩ (.int .i64 H.root)).setCell ⟨L.gp,7,none⟩ (.int .u64 H.change)).setCell ⟨L.gp,8,none⟩ (.int .i64 H.pages)).drew:=⟨_,rfl⟩;have hff:PTo w L (P.found H) wf:=by rw [hwf];exact HFF.out.post ((Below.refl _ _).drew)
 rw [← hwf];have HF9:=hid hff;clear hwf hff HFF;go_wp2_with fail;go_ret;exact ⟨rfl,HF9.out⟩
theorem rN (H:He) (size:Int) (w:World) {D:DkM} {d:Dk} (h:DkIs w D d) (hf:d.Fine) (hj0:d.file aQ=none) (hon:aF d 0 (bh H)) (hg:H.Good) (hm1:H.mode=1):
  Calls Tryz.prog 11 #[ai D.gd,.int .i64 size] w fun e w'=>∃ L,e=.returned (.tuple #[ai L.gp,.int .i64 0])∧PgIs w' L ((Pgr.fresh d size D.gd).found H)∧(∀ k,L.F k→D.F k∨w.heap.size≤k)∧Ch D.F w w':=by
 have HH:=hid h;have HD:=hid (And.intro hf (And.intro hj0 (And.intro hon (And.intro hg hm1))));unfold ai;clear h hf hj0 hon hg hm1;go_enter Tryz.func11,Tryz.ntmps11;go_wp2_with fail;refine (xu size w).mono ?_;rintro e w1 ⟨v,Fc,rfl,hca,hF,hb1⟩;obtain ⟨a,rfl⟩:=hca.ptr;have HD1:=hid (HH.out.ch (Ch.of_below (S:=fun _=>False) hb1) (fun _ _ h=>h));have HL:=hid (dn w1 HD1.out);have HB1:=hid hb1;have HCA:=hid hca;have HF1:=hid hF;clear hca hF hb1;go_wp2_with fail;refine HL.out.mono ?_;rintro e w2 ⟨rfl,rfl⟩;obtain ⟨G,hG1,hG2⟩:=HCA.out.lt;have hsz:=oo size
 have hPI:PgIs (w1.alloc (bX ⟨w1.heap.size,D,.pointer (some a),fun k=>k ∈ G,none,.slice none 0 0,[],none⟩ (Pgr.fresh d size D.gd))) ⟨w1.heap.size,D,.pointer (some a),fun k=>k ∈ G,none,.slice none 0 0,[],none⟩ (Pgr.fresh d size D.gd):=by
  have hA:Below w1.heap.size w1 (w1.alloc (bX ⟨w1.heap.size,D,.pointer (some a),fun k=>k ∈ G,none,.slice none 0 0,[],none⟩ (Pgr.fresh d size D.gd))):=(Below.refl _ w1).alloc (Nat.le_refl _) _;have hDl:∀ k,D.F k→k<w.heap.size:=fun k hk=>HH.out.lt hk
  have hws:=HB1.out.size;refine PgIs.build ⟨hsz.1,hsz.2,Nat.zero_le _,Nat.zero_le _,Nat.zero_le _,Nat.zero_le _⟩ (af rfl) (HD1.out.ch (Ch.of_below (S:=fun _=>False) hA) (fun _ _ h=>h)) (hG2.below hA) (fun k hk=>Nat.lt_of_lt_of_le (hG1 k hk).1 hA.size) (.inl ⟨rfl,rfl⟩) (SvIs.nil _) (.inl ⟨rfl,rfl⟩) ⟨fun hk=>?_,fun hk=>?_,fun hk=>hk,fun hk=>?_,fun k hk hc=>?_,fun _ _ hc=>hc,fun k _ hc=>?_,fun _ _ hc=>hc,fun k _ hc=>?_,fun _ hk=>hk.elim,fun hk=>hk,fun _ _ hc=>hc,fun _ _ hc=>hc,fun _ _ hc=>hc,fun _ _ hc=>hc⟩ rfl
  ·have:=hDl _ hk;simp only at this;omega
  ·have:=(hG1 _ hk).1;simp only at this;omega
  ·rcases hk with hk | hk <;> cases hk
  ·have:=hDl k hk;have:=HF1.out k (hG1 k hc).2;omega
  ·rcases hc with hc | hc <;> cases hc
  ·rcases hc with hc | hc <;> cases hc
 have HPI:=hid hPI;have HF0:=hid (rA H _ hPI rfl HD.out.1 HD.out.2.1 HD.out.2.2.1 HD.out.2.2.2.1 HD.out.2.2.2.2);have HGG:=hid (fun k (hk:k ∈ G)=>HF1.out k (hG1 k hk).2);unfold ai at HF0;clear hPI hG1 hG2 hsz;go_wp2_with fail;refine HF0.out.mono ?_;rintro e w2 ⟨rfl,L2,g2,p2,f2,k2⟩;have HT:=hid (And.intro p2 (And.intro f2 k2));have HG:=hid g2;clear g2 p2 f2 k2;go_wp2_with fail;go_ret2;have hws:=HB1.out.size
 have hF2:∀ k,L2.F k→D.F k∨w.heap.size≤k:=fun k hk=>by
  rcases HT.out.2.1 k hk with hk | hk
  ·rcases hk with hk | hk | hk | hk | hk | hk
   ·right;have hk:k=w1.heap.size:=hk;omega
   ·exact .inl hk
   ·exact .inr (HGG.out k hk)
   ·exact hk.elim
   ·rcases hk with hk | hk <;> cases hk
   ·exact hk.elim
  ·right;simp at hk;omega
 exact ⟨L2,by rw [HG.out];rfl,HT.out.1,hF2,((Ch.of_below HB1.out).trans (Ch.of_below ((Below.refl _ w1).alloc (Nat.le_refl _) _))).then HT.out.2.2 fun k hk=>by
  rcases hk with hk | hk | hk | hk | hk | hk
  ·right;have hk:k=w1.heap.size:=hk;omega
  ·exact .inl hk
  ·exact .inr (HGG.out k hk)
  ·exact hk.elim
  ·rcases hk with hk | hk <;> cases hk
  ·exact hk.elim⟩
theorem iM (w:World) {L:PgL} {P:Pgr} (h:PgIs w L P) (hu:P.Up) (hb:P.busy=false):
  Calls Tryz.prog 36 #[ai L.gp] w fun e w'=>e=.returned (.int .i64 40)∧Below w.heap.size w w':=by
 have hA:Below w.heap.size w (w.alloc (.cells #[.bool true] 4)):=(Below.refl _ w).alloc (Nat.le_refl _) _;have hX:(w.alloc (.cells #[.bool true] 4)).heap[w.heap.size]?=some (.cells #[.bool true] 4 (0,0)):=af rfl;have HB:=hid (ak true w.heap.size _ (h.below hA) hu (aa hX 0) (ab hX));rw [hb,show bV (some true) false=40 from rfl] at HB;have HA:=hid hA;unfold ai at *;clear h hu hb hA hX;go_enter Tryz.func36,Tryz.ntmps36;go_wp2_with fail;refine HB.out.mono ?_;rintro e w1 ⟨rfl,hb1⟩;have HB1:=hid (HA.out.trans (hb1.mono HA.out.size));clear hb1;go_wp2_with fail;go_ret;exact ⟨rfl,HB1.out⟩
theorem oI (w:World) {L:PgL} {P:Pgr} (h:PgIs w L P) (hu:P.Up) (hb:P.busy=true) (hwr:P.wrote=true) (hc:CanCom P):
  Calls Tryz.prog 36 #[ai L.gp] w fun e w'=>e=.returned (.int .i64 0)∧PTo w L P.com0 w':=by
 have HCC:=hid (And.intro hc hwr);clear hc hwr;have hA:Below w.heap.size w (w.alloc (.cells #[.bool true] 4)):=(Below.refl _ w).alloc (Nat.le_refl _) _;have hX:(w.alloc (.cells #[.bool true] 4)).heap[w.heap.size]?=some (.cells #[.bool true] 4 (0,0)):=af rfl;have HB:=hid (ak true w.heap.size _ (h.below hA) hu (aa hX 0) (ab hX));rw [hb,show bV (some true) true=0 from rfl] at HB;have HA:=hid hA;have HH:=hid h;have HU:=hid (And.intro hu hb);unfold ai at *;clear h hu hb hA hX;go_enter Tryz.func36,Tryz.ntmps36;go_wp2_with fail;refine HB.out.mono ?_;rintro e w1 ⟨rfl,hb1⟩;have HB1:=hid (HA.out.trans (hb1.mono HA.out.size));have HP1:=hid (HH.out.below HB1.out);have hC:=ag HP1.out.blk;have hlt:=hC.lt;have c14:=hC.c14;rw [HCC.out.2] at c14;have HCM:=hid (oB w1 HP1.out HCC.out.1);unfold ai at HCM;clear hb1 hC;go_wp2_with fail;refine HCM.out.mono ?_;rintro e w2 ⟨rfl,hr⟩;have HR:=hid (PTo.pre hr HB1.out);clear hr;go_wp2_with fail;go_ret;exact ⟨rfl,HR.out⟩
end Go.Proofs.YtdmhbgpejppbkaaGreat
namespace Go.Proofs.YtdmhbgpejppbkaaGreat
open Go.Lib (hid)
open Go.RowKit Go.Maps
def cK (n:Nat) (x:Pg):Bool:=decide ((n:Int)≤x.n)
theorem sM (n:Nat) (p:Pg) (g:Nat) (w:World) (hg:w.cell? ⟨g,0,none⟩=some (.int .i64 n)) (hl:g<w.heap.size):
  Calls Tryz.prog 247 #[.agg #[.int .i64 p.n,.string p.s],.pointer (some ⟨g,0,none⟩)] w fun e w'=>e=.returned (.bool (cK n p))∧Below w.heap.size w w':=by
 have HA:=hid ((Below.refl _ w).alloc (Nat.le_refl _) (.cells #[.int .i64 p.n,.string p.s] 134));go_enter Tryz.func247,Tryz.ntmps247;have h0:decide (p.n ≥ (n:Int))=cK n p:=rfl;go_wp2_with fail;go_ret;exact ⟨by first | rfl | simp [cK],HA.out⟩
theorem sw (n:Nat) (g:Nat) (v:Value) (xs:List Pg) (w:World) (h:Sl Pg.cells 2 w v xs) (hl:xs.length≤1000000) (hg:w.cell? ⟨g,0,none⟩=some (.int .i64 n)) (hgl:g<w.heap.size):
  Calls Tryz.prog 281 #[v,.func (Fn.func 247) #[] #[.pointer (some ⟨g,0,none⟩)]] w fun e w'=>e=.returned (.int .i64 (bI (cK n) xs))∧Below w.heap.size w w':=by
 obtain ⟨A,c,rfl⟩:=Sl.len' h;have H:=hid h;have HG:=hid (And.intro hg hgl);clear h hg hgl;go_enter Tryz.func281,Tryz.ntmps281;go_wp2_with fail;go_loopw [8] (fun i wr=>∃ k:Nat,k≤xs.length∧i=.int .i64 k∧(∀ j (h:j<xs.length),j<k→cK n xs[j]=false)∧Below w.heap.size w wr) (fun i _=>xs.length - (intOf i).toNat)
 case atStart=>exact ⟨0,Nat.zero_le _,rfl,fun _ _ h=>absurd h (Nat.not_lt_zero _),Below.refl _ _⟩
 case round=>
  obtain ⟨k,hk,rfl,hno,hb⟩:=hrel;have HN:=hid hno;have HB:=hid hb;clear hno hb;by_cases hlt:k<xs.length
  ·obtain ⟨b,off,c',he,hbl,hcells⟩:=(H.out.keep HB.out).at1 hlt;injection he with he1 he2 he3
   subst he1 he3;have hk0:(0:Int)≤(k:Int):=by omega
   have hk1:(k:Int)<(xs.length:Int):=by omega
   have HI:=hid (show cK n xs[k]=true→bI (cK n) xs=k from fun h=>fM hlt h HN.out);have HU:=hid (show cK n xs[k]=false→∀ j (h:j<xs.length),j<k+1→cK n xs[j]=false from fun h=>oK HN.out hlt h);generalize xs[k]=x at *;have e0:wr.cell? ⟨b,off+k * 2,none⟩=some (.int .i64 x.n):=hcells 0 _ rfl;have e1:wr.cell? ⟨b,off+k * 2+1,none⟩=some (.string x.s):=hcells 1 _ rfl;have HBL:=hid (sM n x g wr ((HB.out.cell (p:=⟨g,0,none⟩) HG.out.2).trans HG.out.1) (Nat.lt_of_lt_of_le HG.out.2 HB.out.size));clear hcells;go_wp2_with fail;refine HBL.out.mono ?_;rintro e w' ⟨rfl,hb⟩;have HB2:=hid (HB.out.trans (hb.mono HB.out.size));clear hb;cases hx:cK n x
   ·have HX:=hid (HU.out hx);go_wp2_with fail;go_roundw
    case rel=>exact ⟨k+1,by omega,by go_num,HX.out,HB2.out⟩
    case measure=>simp [intOf];omega
   ·have HX:=hid (HI.out hx);go_wp2_with fail;go_ret;exact ⟨by rw [HX.out];rfl,HB2.out⟩
  ·have HX:=hid (dZ (p:=cK n) hlt HN.out);go_wp2_with fail;go_ret;exact ⟨by rw [HX.out];rfl,HB.out⟩
theorem ic (n:Nat) (g:Nat) (v:Value) (xs:List Pg) (w:World) (h:Sl Pg.cells 2 w v xs) (hl:xs.length≤1000000) (hg:w.cell? ⟨g,0,none⟩=some (.int .i64 n)) (hgl:g<w.heap.size):
  Calls Tryz.prog 248 #[v,.func (Fn.func 247) #[] #[.pointer (some ⟨g,0,none⟩)]] w fun e w'=>e=.returned (.bool (xs.any (cK n)))∧Below w.heap.size w w':=by
 go_enter Tryz.func248,Tryz.ntmps248;go_wp2_with fail;refine (sw n g v xs w h hl hg hgl).mono ?_;rintro e w' ⟨rfl,hb⟩;have HB:=hid hb;clear hb;have HF:=hid (fL (cK n) xs);generalize bI (cK n) xs=m at *;go_wp2_with fail;go_ret;exact ⟨by rw [← HF.out];rfl,HB.out⟩
def aV (l:List (Nat × By)):List Pg:=l.map fun r=>⟨r.1,aj r.2⟩
def iB (pages feet salt:Nat) (vs vl:Value):Obj:=.cells #[.int .i64 pages,.int .i64 feet,.int .u64 salt,vs,vl] 243 (0,0)
structure FdIs (w:World) (b gf pages salt:Nat) (x:JS) (n:Nat) (vs vl:Value):Prop where
 blk:w.heap[gf]?=some (iB (if 0<x.f then pages else 0) x.f (if 0<n then salt else 0) vs vl)
 su:Own Pg.cells 2 134 b w vs (aV x.su)
 lo:Own Pg.cells 2 134 b w vl (aV x.lo)
 ns:vs.ownBlock≠some gf
 nl:vl.ownBlock≠some gf
 dis:∀ k,vs.ownBlock=some k→vl.ownBlock≠some k
 bg:b≤gf
def pm (w:World) (b gf pages salt:Nat) (x:JS) (n:Nat) (w':World):Prop:=∃ vs vl,FdIs w' b gf pages salt x n vs vl∧Ch (fun k=>b≤k) w w'
theorem pM {W:World} {b:Nat} {v:Value} {xs:List Pg} (x:Pg) (h:Own Pg.cells 2 134 b W v xs) (hl:xs.length≤100000) (hb:b≤W.heap.size):
  ∃ v' w',(dU #[135,135] 135 #[v,.slice (some ⟨W.heap.size,0,none⟩) 1 1]).run Tryz.prog (W.alloc (bj x)).drew=.ok v' w'∧Own Pg.cells 2 134 b w' v' (xs ++ [x])∧Ch (fun k=>v.ownBlock=some k) W w'∧∀ k,v'.ownBlock=some k→v.ownBlock=some k∨W.heap.size≤k:=by
 have hA:Below W.heap.size W (W.alloc (bj x)).drew:=((Below.refl W.heap.size W).alloc (Nat.le_refl _) _).drew;obtain ⟨v',w6,hr,ho,hg,hat⟩:=aZ (P:=Tryz.prog) Av 135 (h.below hA)
  ((Sl.one (w0:=W) (g:=W.heap.size) (e:=134) (cs:=(Pg.cells x).toArray) x (c:=1) rfl Pg.len (by simp)).keep ((Below.refl _ _).drew)) (by unfold maxLen;simp only [List.length_cons,List.length_nil];omega) (by simp only [List.length_cons,List.length_nil];omega) (Nat.le_trans hb hA.size)
 refine ⟨v',w6,hr,ho,(Ch.of_below hA).trans (Ch.of_grown hg fun k hk=>hk),fun k hk=>?_⟩;rcases hat with hat | hat
 ·exact .inl (hat ▸ hk)
 ·rw [hat] at hk;injection hk with hk
  have:=hA.size;exact .inr (by omega)
attribute [local go_sem ↓] fN
theorem uV (pages salt n i:Nat) (s:By) (x:JS) (w:World) {b gf:Nat} {vs vl:Value} (h:FdIs w b gf pages salt x i vs vl) (hn:n<4096) (hl:x.lo.length≤1000):
  Calls Tryz.prog 207 #[ai gf,cN 2 n salt (aj s),.bool (decide (i=0))] w fun e w'=>e=.returned (.bool true)∧pm w b gf pages salt (x.go (some (n,s))) (i+1) w':=by
 have HH:=hid h;have c0:=aa h.blk 0;have c1:=aa h.blk 1;have c2:=aa h.blk 2;have c3:=aa h.blk 3;have c4:=aa h.blk 4;simp only [List.getElem?_toArray,List.getElem?_cons_succ,List.getElem?_cons_zero] at c0 c1 c2 c3 c4;have cl:=ab h.blk;have z2:=ah h.blk 2;have z4:=ah h.blk 4;have hgl:=h.bg;obtain ⟨wA,hwA⟩:∃ wA,w.alloc (.cells #[.int .i64 2,.int .i64 n,.int .u64 salt,.string (aj s)] 181)=wA:=⟨_,rfl⟩;have hAA:Below w.heap.size w wA:=by rw [← hwA];exact (Below.refl _ w).alloc (Nat.le_refl _) _
 have hxb:wA.heap[w.heap.size]?=some (bq 2 n salt (aj s)):=by rw [← hwA];exact af rfl
 have x0:=aa hxb 0;have x1:=aa hxb 1;have x2:=aa hxb 2;have x3:=aa hxb 3;simp only [List.getElem?_toArray,List.getElem?_cons_succ,List.getElem?_cons_zero] at x0 x1 x2 x3;have xl:=ab hxb;have c0:=(hAA.cell (p:=⟨gf,0,none⟩) cl).trans c0;have c1:=(hAA.cell (p:=⟨gf,1,none⟩) cl).trans c1;have c2:=(hAA.cell (p:=⟨gf,2,none⟩) cl).trans c2;have c3:=(hAA.cell (p:=⟨gf,3,none⟩) cl).trans c3;have c4:=(hAA.cell (p:=⟨gf,4,none⟩) cl).trans c4;have HBK:=hid (aB h.blk hAA);have z2:=ah HBK.out 2;have z4:=ah HBK.out 4;have cl:=Nat.lt_of_lt_of_le cl hAA.size;have HAA:=hid hAA;have HXB:=hid hxb;unfold ai cN iB bq at *;clear h hAA hxb;go_enter Tryz.func207,Tryz.ntmps207;go_upto_region 1 with fail
 try rw [hwA]
 clear hwA;by_cases hi:i=0
 ·subst hi;go_region;obtain ⟨w3,hw3⟩:∃ w3,wA.drew.setCell ⟨gf,2,none⟩ (.int .u64 salt)=w3:=⟨_,rfl⟩;have hc3:Ch (fun k=>k=gf) wA w3:=by rw [← hw3];exact ((Ch.refl (fun k=>k=gf) wA).drew).setCell (p:=⟨gf,2,none⟩) rfl _
  have hbk3:w3.heap[gf]?=some (iB (if 0<x.f then pages else 0) x.f salt vs vl):=by rw [← hw3];exact ae (w:=wA.drew) HBK.out 2 (.int .u64 salt)
  have HX3:=hid (hc3.keep HXB.out (by omega));have HC3:=hid hc3;have HB3:=hid hbk3;go_upto_region 4 with fail
  try rw [hw3]
  clear x0 x1 x2 x3 xl c0 c1 c2 c3 c4 cl z2 z4 hc3 hbk3;have x0:=aa HX3.out 0;have x1:=aa HX3.out 1;have x3:=aa HX3.out 3;have c4:=aa HB3.out 4;unfold bq at x0 x1 x3;unfold iB at c4;simp only [List.getElem?_toArray,List.getElem?_cons_succ,List.getElem?_cons_zero] at x0 x1 x3 c4;have xl:=ab HX3.out;have cl:=ab HB3.out;have hlo3:Own Pg.cells 2 134 b w3 vl (aV x.lo):=(HH.out.lo.below HAA.out).ch HC3.out fun k hk e=>HH.out.nl (by rw [hk,e])
  have hrl:(aV x.lo).length=x.lo.length:=by unfold aV;rw [List.length_map]
  obtain ⟨v',w6,hr',ho,hc6,hat⟩:=pM ⟨n,aj s⟩ hlo3 (by omega) (by have:=HC3.out.size;have:=HAA.out.size;omega);have hb6:=hc6.keep HB3.out (fun e=>HH.out.nl e);have hx6:=hc6.keep HX3.out (fun e=>by have:=(HH.out.lo.lt _ e).2;omega);have d4:=aa hb6 4;have y4:=ah hb6 4;have yl:=ab hb6;have e1:=aa hx6 1;have hgn1:gf≠w.heap.size:=by omega
  have hgn2:w.heap.size≠gf:=by omega
  unfold bq at e1;unfold iB at d4;simp only [List.getElem?_toArray,List.getElem?_cons_succ,List.getElem?_cons_zero] at d4 e1;have el:=ab hx6;have HF:=hid (show pm w b gf pages salt (x.go (some (n,s))) (0+1) (w6.setCell ⟨gf,4,none⟩ v') from by
   have hcS:Ch (fun k=>k=gf) w6 (w6.setCell ⟨gf,4,none⟩ v'):=(Ch.refl (fun k=>k=gf) w6).setCell (p:=⟨gf,4,none⟩) rfl _;have hwz:w.heap.size≤w3.heap.size:=Nat.le_trans HAA.out.size HC3.out.size
   have hv'g:∀ k,v'.ownBlock=some k→k≠gf:=fun k hk e=>by
    rcases hat k hk with h | h
    ·exact HH.out.nl (by rw [h,e])
    ·have:=ab HB3.out;omega
   refine ⟨vs,v',⟨?_,?_,?_,HH.out.ns,fun e=>hv'g gf e rfl,fun k hk e=>?_,HH.out.bg⟩,?_⟩
   ·have:=ae hb6 4 v';rw [if_pos (Nat.succ_pos _)];exact this
   ·refine (((HH.out.su.below HAA.out).ch HC3.out fun k hk e=>HH.out.ns (by rw [hk,e])).ch hc6 fun k hk e=>HH.out.dis k hk e).ch hcS fun k hk e=>HH.out.ns (by rw [hk,e])
   ·have e:aV (x.go (some (n,s))).lo=aV x.lo ++ [⟨n,aj s⟩]:=by show aV (x.lo ++ [(n,s)])=_;unfold aV;rw [List.map_append];rfl
    rw [e];exact ho.ch hcS fun k hk e=>hv'g k hk e
   ·rcases hat k e with h | h
    ·exact HH.out.dis k hk h
    ·have:=(HH.out.su.lt k hk).2;omega
   ·have hbg:=HH.out.bg;exact ((((Ch.of_below HAA.out).mono fun _ _ h=>h).then HC3.out fun k e=>.inl (by omega)).then hc6 fun k e=>.inl (HH.out.lo.lt k e).1).then hcS fun k e=>.inl (by omega))
  obtain ⟨A',cv',rfl,-⟩:=aD ho;rw [show (aV x.lo ++ [(⟨(n:Int),aj s⟩:Pg)]).length=(aV x.lo).length+1 from by rw [List.length_append];rfl] at HF hr';unfold bj Pg.cells at hr';clear hlo3 hrl ho hc6 hat hb6 hx6;go_wp2_with fail;go_region;go_wp2_with fail;go_ret;exact ⟨by simp;omega,HF.out⟩
 ·have hi2:decide (i=0)=false:=decide_eq_false hi;have hs1:(if 0<i then salt else 0)=salt:=if_pos (by omega);rw [hs1] at c2;go_region;obtain ⟨w3,hw3⟩:∃ w3,wA.drew.setCell ⟨gf,2,none⟩ (.int .u64 salt)=w3:=⟨_,rfl⟩;have hc3:Ch (fun k=>k=gf) wA w3:=by rw [← hw3];exact ((Ch.refl (fun k=>k=gf) wA).drew).setCell (p:=⟨gf,2,none⟩) rfl _
  have hbk3:w3.heap[gf]?=some (iB (if 0<x.f then pages else 0) x.f salt vs vl):=by rw [← hw3];exact ae (w:=wA.drew) HBK.out 2 (.int .u64 salt)
  have HX3:=hid (hc3.keep HXB.out (by omega));have HC3:=hid hc3;have HB3:=hid hbk3;go_upto_region 4 with fail
  try rw [hw3]
  clear x0 x1 x2 x3 xl c0 c1 c2 c3 c4 cl z2 z4 hc3 hbk3;have x0:=aa HX3.out 0;have x1:=aa HX3.out 1;have x3:=aa HX3.out 3;have c4:=aa HB3.out 4;unfold bq at x0 x1 x3;unfold iB at c4;simp only [List.getElem?_toArray,List.getElem?_cons_succ,List.getElem?_cons_zero] at x0 x1 x3 c4;have xl:=ab HX3.out;have cl:=ab HB3.out;have hlo3:Own Pg.cells 2 134 b w3 vl (aV x.lo):=(HH.out.lo.below HAA.out).ch HC3.out fun k hk e=>HH.out.nl (by rw [hk,e])
  have hrl:(aV x.lo).length=x.lo.length:=by unfold aV;rw [List.length_map]
  obtain ⟨v',w6,hr',ho,hc6,hat⟩:=pM ⟨n,aj s⟩ hlo3 (by omega) (by have:=HC3.out.size;have:=HAA.out.size;omega);have hb6:=hc6.keep HB3.out (fun e=>HH.out.nl e);have hx6:=hc6.keep HX3.out (fun e=>by have:=(HH.out.lo.lt _ e).2;omega);have d4:=aa hb6 4;have y4:=ah hb6 4;have yl:=ab hb6;have e1:=aa hx6 1;have hgn1:gf≠w.heap.size:=by omega
  have hgn2:w.heap.size≠gf:=by omega
  unfold bq at e1;unfold iB at d4;simp only [List.getElem?_toArray,List.getElem?_cons_succ,List.getElem?_cons_zero] at d4 e1;have el:=ab hx6;have HF:=hid (show pm w b gf pages salt (x.go (some (n,s))) (i+1) (w6.setCell ⟨gf,4,none⟩ v') from by
   have hcS:Ch (fun k=>k=gf) w6 (w6.setCell ⟨gf,4,none⟩ v'):=(Ch.refl (fun k=>k=gf) w6).setCell (p:=⟨gf,4,none⟩) rfl _;have hwz:w.heap.size≤w3.heap.size:=Nat.le_trans HAA.out.size HC3.out.size
   have hv'g:∀ k,v'.ownBlock=some k→k≠gf:=fun k hk e=>by
    rcases hat k hk with h | h
    ·exact HH.out.nl (by rw [h,e])
    ·have:=ab HB3.out;omega
   refine ⟨vs,v',⟨?_,?_,?_,HH.out.ns,fun e=>hv'g gf e rfl,fun k hk e=>?_,HH.out.bg⟩,?_⟩
   ·have:=ae hb6 4 v';rw [if_pos (Nat.succ_pos _)];exact this
   ·refine (((HH.out.su.below HAA.out).ch HC3.out fun k hk e=>HH.out.ns (by rw [hk,e])).ch hc6 fun k hk e=>HH.out.dis k hk e).ch hcS fun k hk e=>HH.out.ns (by rw [hk,e])
   ·have e:aV (x.go (some (n,s))).lo=aV x.lo ++ [⟨n,aj s⟩]:=by show aV (x.lo ++ [(n,s)])=_;unfold aV;rw [List.map_append];rfl
    rw [e];exact ho.ch hcS fun k hk e=>hv'g k hk e
   ·rcases hat k e with h | h
    ·exact HH.out.dis k hk h
    ·have:=(HH.out.su.lt k hk).2;omega
   ·have hbg:=HH.out.bg;exact ((((Ch.of_below HAA.out).mono fun _ _ h=>h).then HC3.out fun k e=>.inl (by omega)).then hc6 fun k e=>.inl (HH.out.lo.lt k e).1).then hcS fun k e=>.inl (by omega))
  obtain ⟨A',cv',rfl,-⟩:=aD ho;rw [show (aV x.lo ++ [(⟨(n:Int),aj s⟩:Pg)]).length=(aV x.lo).length+1 from by rw [List.length_append];rfl] at HF hr';unfold bj Pg.cells at hr';clear hlo3 hrl ho hc6 hat hb6 hx6;go_wp2_with fail;go_region;go_wp2_with fail;go_ret;exact ⟨by simp;omega,HF.out⟩
end Go.Proofs.YtdmhbgpejppbkaaGreat
