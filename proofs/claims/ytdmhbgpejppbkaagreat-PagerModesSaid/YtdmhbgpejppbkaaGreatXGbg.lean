/- pager: New, Put, Get as exact functions (spare.Take where no page is spare). pager: Put, Get as exact functions; behind a loss of power. pager: Get, Put as they are seen from without. pager: begin behind a loss of power; Get, Ready then. pager: Save. pager: Reset. -/
import Derived.Test.YtdmhbgpejppbkaaGreatXGaz
import Derived.Test.YtdmhbgpejppbkaaGreatXGbc
import Derived.Test.YtdmhbgpejppbkaaGreatXGba
import Derived.Test.YtdmhbgpejppbkaaGreatXGbf
import Derived.RangeFuncBox
import Derived.Maps.AppendAt
set_option maxRecDepth 100000
set_option maxHeartbeats 4000000
namespace Go.Proofs.YtdmhbgpejppbkaaGreat
open Go.Lib (hid)
open Go.RowKit Go.Maps
theorem zz (a b c d e f:Int) (w:World):(Instr.field 38 (.agg #[.int .i64 a,.int .i64 b,.int .i64 c,.int .i64 d,.int .i64 e,.int .u64 f]) 1).run Tryz.prog w=.ok (.int .i64 b) w:=by kernel_rfl
theorem tR {w1 v1:World} (hR:v1.heap[w1.heap.size+1]?=some jM) (hB:Below w1.heap.size w1 v1) (h:Hd):
  (iT (v1.setCell ⟨w1.heap.size,1,none⟩ (.int .i64 h.pages)) (w1.heap.size+1) h).heap[w1.heap.size+1]?=some (fS h)∧Below w1.heap.size w1 (iT (v1.setCell ⟨w1.heap.size,1,none⟩ (.int .i64 h.pages)) (w1.heap.size+1) h):=by
 have h1:(v1.setCell ⟨w1.heap.size,1,none⟩ (.int .i64 h.pages)).heap[w1.heap.size+1]?=some (fS Hd.zero):=cI hR (a:=⟨w1.heap.size,1,none⟩) (by simp) (.int .i64 h.pages);have hc:Ch (fun k=>w1.heap.size≤k) v1 (iT (v1.setCell ⟨w1.heap.size,1,none⟩ (.int .i64 h.pages)) (w1.heap.size+1) h):=sA ((Ch.refl (fun k=>w1.heap.size≤k) v1).setCell (p:=⟨w1.heap.size,1,none⟩) (Nat.le_refl _) _) (Nat.le_succ _) h;exact ⟨lO h1 h,hB.trans (hc.below hB.size fun k hk=>hk)⟩
theorem tS (W:He) (v:Value) (w1:World) (h0:W.spare=0) (hp4:W.pages<4096):
  Calls Tryz.prog 88 #[fJ W,v] w1 fun e w'=>e=.returned (.tuple #[.int .i64 W.pages,fJ { W with pages:=W.pages+1 },.int .i64 0])∧Below w1.heap.size w1 w':=by
 obtain ⟨hm,hp,ht,hs,hr,hc⟩:=W;simp only at h0 hp4;subst h0;unfold fJ lN;simp only;go_enter Tryz.func88,Tryz.ntmps88;go_upto_region 1 with fail
 have HX1:=hid (ar (af (w0:=w1) (g:=w1.heap.size) (o:=dP ⟨hm,hp,ht,0,hr,hc⟩) rfl) jM);have HR1:=hid (af (w0:=w1.alloc (dP ⟨hm,hp,ht,0,hr,hc⟩)) (g:=w1.heap.size+1) (o:=jM) (by simp));have HB1:=hid (((Below.refl w1.heap.size w1).alloc (Nat.le_refl _) (dP ⟨hm,hp,ht,0,hr,hc⟩)).alloc (by simp) jM);obtain ⟨v1,hv1⟩:∃ v1,(w1.alloc (dP ⟨hm,hp,ht,0,hr,hc⟩)).alloc jM=v1:=⟨_,rfl⟩;rw [hv1] at HX1 HR1 HB1;change Code.wp _ _ _ _ ((w1.alloc (dP ⟨hm,hp,ht,0,hr,hc⟩)).alloc jM);rw [hv1];clear hv1;obtain ⟨a0,a1,a2,a3,a4,a5,a6⟩:=du HX1.out;have a3:v1.cell? ⟨w1.heap.size,3,none⟩=some (.int .i64 0):=a3;have b1:=ah HX1.out 1;have c0:=aa HR1.out 0;have c1:=aa HR1.out 1;have c2:=aa HR1.out 2;have c3:=aa HR1.out 3;have c4:=aa HR1.out 4;have c5:=aa HR1.out 5;simp only [List.getElem?_toArray,List.getElem?_cons_zero,List.getElem?_cons_succ] at c0 c1 c2 c3 c4 c5;have c6:=ab HR1.out;have d0:=ah HR1.out 0;have d1:=ah HR1.out 1;have d2:=ah HR1.out 2;have d3:=ah HR1.out 3;have d4:=ah HR1.out 4;have d5:=ah HR1.out 5;have hwr:IntKind.i64.wrap ((hp:Int)+1)=(hp:Int)+1:=by rw [IntKind.wrap_i64];omega
 have hp5:(hp:Int)<4096:=by omega
 go_wp2_with fail;go_region
 all_goals
  go_wp2_with fail;have HF:=hid (tR HR1.out HB1.out ⟨hm,hp+1,ht,0,hr,hc⟩);obtain ⟨q0,q1,q2,q3,q4,q5,q6⟩:=aE HF.out.1;generalize hwf:iT (v1.setCell ⟨w1.heap.size,1,none⟩ (.int .i64 ((hp:Int)+1))) (w1.heap.size+1) ⟨hm,hp+1,ht,0,hr,hc⟩=wf at *;have hwf2:((((((v1.setCell ⟨w1.heap.size,1,none⟩ (.int .i64 ((hp:Int)+1))).setCell ⟨w1.heap.size+1,0,none⟩ (.int .i64 hm)).setCell ⟨w1.heap.size+1,1,none⟩ (.int .i64 ((hp:Int)+1))).setCell ⟨w1.heap.size+1,2,none⟩ (.int .i64 ht)).setCell ⟨w1.heap.size+1,3,none⟩ (.int .i64 0)).setCell ⟨w1.heap.size+1,4,none⟩ (.int .i64 hr)).setCell ⟨w1.heap.size+1,5,none⟩ (.int .u64 hc)=wf:=hwf;rw [hwf2];exact bodyPost_ret (v:=.tuple #[.int .i64 hp,.agg #[.int .i64 hm,.int .i64 ((hp:Int)+1),.int .i64 ht,.int .i64 0,.int .i64 hr,.int .u64 hc],.int .i64 0]) (by simp [results,Tryz.results88,go_sem,q0,q1,q2,q3,q4,q5]) rfl ⟨rfl,(by first | exact HF.out.2 | exact HF.out.2.drew | exact HF.out.2.drew.drew)⟩
def Pgr.new0 (P:Pgr):Pgr:={ (({ P with work:={ P.work with pages:=P.work.pages+1 } }:Pgr).hold P.work.pages bK true) with wrote:=true }
theorem uo (w:World) {L:PgL} {P:Pgr} (h:PgIs w L P) (hu:P.Up) (hb:P.busy=true) (hs:P.work.spare=0) (hp:P.work.pages<4096) (hbase:P.base≤P.work.pages) (hsv:P.saves=[])
  (hl:(({ P with work:={ P.work with pages:=P.work.pages+1 } }:Pgr).gone P.work.pages bK true).length≤1000) (hc:bU (({ P with work:={ P.work with pages:=P.work.pages+1 } }:Pgr).putc P.work.pages bK true) (({ P with work:={ P.work with pages:=P.work.pages+1 } }:Pgr).gone P.work.pages bK true)):
  Calls Tryz.prog 37 #[ai L.gp] w fun e w'=>e=.returned (.tuple #[.int .i64 P.work.pages,.int .i64 0])∧PTo w L P.new0 w':=by
 obtain ⟨H,hH⟩:∃ H,H={ P.work with pages:=P.work.pages+1 }:=⟨_,rfl⟩;rw [← hH] at hl hc;have HHH:=hid hH;have HO:=hid (And.intro hbase (And.intro hsv (And.intro hl (And.intro hc hp))));have HTK:=hid (fun (v:Value) (w1:World)=>tS P.work v w1 hs hp);rw [← hH] at HTK;have hhp:H.pages=P.work.pages+1:=by rw [hH]
 have HHP:=hid hhp;unfold fJ lN at HTK;clear hs hp hbase hsv hl hc hH hhp;have hA:Below w.heap.size w (w.alloc (.cells #[.bool true] 4)):=(Below.refl _ w).alloc (Nat.le_refl _) _;have hX:(w.alloc (.cells #[.bool true] 4)).heap[w.heap.size]?=some (.cells #[.bool true] 4 (0,0)):=af rfl;have HB:=hid (ak true w.heap.size _ (h.below hA) hu (aa hX 0) (ab hX));rw [hb,show bV (some true) true=0 from rfl] at HB;have HA:=hid hA;have HH:=hid h;have HU:=hid (And.intro hu hb);unfold ai at *;clear h hu hb hA hX;go_enter Tryz.func37,Tryz.ntmps37;go_wp2_with fail;refine HB.out.mono ?_;rintro e w1 ⟨rfl,hb1⟩;have HB1:=hid (HA.out.trans (hb1.mono HA.out.size));have HP1:=hid (HH.out.below HB1.out);have hC:=ag HP1.out.blk;have hlt:=hC.lt;have c15:=hC.c15;have c16:=hC.c16;have c17:=hC.c17;have c18:=hC.c18;have c19:=hC.c19;have c20:=hC.c20;clear hb1 hC;go_wp2_with fail;refine (HTK.out _ w1).mono ?_;rintro e w2 ⟨rfl,hb2⟩;have HB2:=hid hb2;have hX3:(w2.alloc (dP H)).heap[w2.heap.size]?=some (dP H):=af rfl;have hA3:Below w2.heap.size w2 (w2.alloc (dP H)):=(Below.refl _ w2).alloc (Nat.le_refl _) _;have HX3:=hid hX3;have HA3:=hid (HB1.out.trans ((hb2.trans (hA3.mono hb2.size)).mono HB1.out.size));have HP3:=hid (HH.out.below HA3.out);clear hb2 hX3 hA3;go_upto_region 7 with fail
 have hw3:∃ w3,w2.alloc (dP H)=w3:=⟨_,rfl⟩;obtain ⟨w3,hw3⟩:=hw3;change Code.wp _ _ _ _ (w2.alloc (dP H));rw [hw3] at HX3 HA3 HP3 ⊢;clear hw3;obtain ⟨x0,x1,x2,x3,x4,x5,xl⟩:=du HX3.out;have hC:=ag HP3.out.blk;have c15:=hC.c15;have c16:=hC.c16;have c17:=hC.c17;have c18:=hC.c18;have c19:=hC.c19;have c20:=hC.c20;have z15:=hC.fz 15;have z16:=hC.fz 16;have z17:=hC.fz 17;have z18:=hC.fz 18;have z19:=hC.fz 19;have z20:=hC.fz 20;have hlt:=hC.lt;have hW:PgIs ((((((w3.setCell ⟨L.gp,15,none⟩ (.int .i64 H.mode)).setCell ⟨L.gp,16,none⟩ (.int .i64 H.pages)).setCell ⟨L.gp,17,none⟩ (.int .i64 H.trunk)).setCell ⟨L.gp,18,none⟩ (.int .i64 H.spare)).setCell ⟨L.gp,19,none⟩ (.int .i64 H.root)).setCell ⟨L.gp,20,none⟩ (.int .u64 H.change)) L { P with work:=H }∧Ch (fun k=>k=L.gp) w3 ((((((w3.setCell ⟨L.gp,15,none⟩ (.int .i64 H.mode)).setCell ⟨L.gp,16,none⟩ (.int .i64 H.pages)).setCell ⟨L.gp,17,none⟩ (.int .i64 H.trunk)).setCell ⟨L.gp,18,none⟩ (.int .i64 H.spare)).setCell ⟨L.gp,19,none⟩ (.int .i64 H.root)).setCell ⟨L.gp,20,none⟩ (.int .u64 H.change)):=by have hc:=((((((Ch.refl (fun k=>k=L.gp) w3).setCell (p:=⟨L.gp,15,none⟩) rfl (.int .i64 H.mode)).setCell (p:=⟨L.gp,16,none⟩) rfl (.int .i64 H.pages)).setCell (p:=⟨L.gp,17,none⟩) rfl (.int .i64 H.trunk)).setCell (p:=⟨L.gp,18,none⟩) rfl (.int .i64 H.spare)).setCell (p:=⟨L.gp,19,none⟩) rfl (.int .i64 H.root)).setCell (p:=⟨L.gp,20,none⟩) rfl (.int .u64 H.change);exact ⟨HP3.out.setBlk hc (ft HP3.out.blk H) rfl rfl rfl rfl rfl ⟨HP3.out.ok.s1,HP3.out.ok.s2,HP3.out.ok.base,HP3.out.ok.hp,by have:=HO.out.2.2.2.2;have:=HHP.out;show H.pages≤4096;omega,HP3.out.ok.nos⟩,hc⟩
 have HWW:=hid hW;clear hW hC;go_upto_region 8 with fail
 generalize (((((w3.setCell ⟨L.gp,15,none⟩ (.int .i64 H.mode)).setCell ⟨L.gp,16,none⟩ (.int .i64 H.pages)).setCell ⟨L.gp,17,none⟩ (.int .i64 H.trunk)).setCell ⟨L.gp,18,none⟩ (.int .i64 H.spare)).setCell ⟨L.gp,19,none⟩ (.int .i64 H.root)).setCell ⟨L.gp,20,none⟩ (.int .u64 H.change)=w4 at *;clear x0 x1 x2 x3 x4 x5 xl c15 c16 c17 c18 c19 c20 z15 z16 z17 z18 z19 z20 hlt;go_wp2_with fail;refine (kR w4).mono ?_;rintro e w5 ⟨rfl,hb5⟩;have HB5:=hid hb5;have HF:=hid (oC P.work.pages bK w5 (HWW.out.1.below hb5) HO.out.1 HO.out.2.1 HO.out.2.2.2.2 HO.out.2.2.1 HO.out.2.2.2.1);unfold ai at HF;clear hb5;go_wp2_with fail;refine HF.out.mono ?_;rintro e w6 ⟨rfl,L6,g6,p6,f6,k6⟩;have HDN:=hid (dB w6 p6);have HT:=hid (And.intro g6 (And.intro f6 k6));rw [g6] at HDN;unfold ai at HDN;clear g6 p6 f6 k6;go_wp2_with fail;refine HDN.out.mono ?_;rintro e w7 ⟨rfl,hr⟩;have HR:=hid (show PTo w L P.new0 w7 from by
  unfold Pgr.new0;rw [← HHH.out];refine PTo.pre ?_ HA3.out;refine PTo.and rfl (fun _ hk=>.inl hk) (HWW.out.2.mono fun k _ e=>.inl e) (PTo.pre ?_ HB5.out);exact PTo.and HT.out.1 HT.out.2.1 HT.out.2.2 hr)
 clear hr;go_wp2_with fail;go_ret2;exact ⟨rfl,HR.out⟩
def Pgr.wr (P:Pgr):Pgr:={ P with wrote:=true }
theorem gK (n:Nat) (old s:By) (w:World) {L:PgL} {P:Pgr} (h:PgIs w L P) (hu:P.Up) (hb:P.busy=true) (h1:1≤n) (hn:n<P.work.pages) (h232:s.length=232) (hc:CanChange P n old s):
  Calls Tryz.prog 38 #[ai L.gp,.int .i64 n,.string (aj s)] w fun e w'=>e=.returned (.int .i64 0)∧PTo w L (P.change n old s).wr w':=by
 have hz2:(aj s).size=232:=by rw [aw,h232]
 have HC:=hid hc;have HN:=hid (And.intro h1 hn);clear hc h1 hn h232;have hA:Below w.heap.size w (w.alloc (.cells #[.bool true] 4)):=(Below.refl _ w).alloc (Nat.le_refl _) _;have hX:(w.alloc (.cells #[.bool true] 4)).heap[w.heap.size]?=some (.cells #[.bool true] 4 (0,0)):=af rfl;have HB:=hid (ak true w.heap.size _ (h.below hA) hu (aa hX 0) (ab hX));rw [hb,show bV (some true) true=0 from rfl] at HB;have HA:=hid hA;have HH:=hid h;have HU:=hid (And.intro hu hb);unfold ai at *;clear h hu hb hA hX;go_enter Tryz.func38,Tryz.ntmps38;go_wp2_with fail;refine HB.out.mono ?_;rintro e w1 ⟨rfl,hb1⟩;have HB1:=hid (HA.out.trans (hb1.mono HA.out.size));have HP1:=hid (HH.out.below HB1.out);have hC:=ag HP1.out.blk;have hlt:=hC.lt;have c16:=hC.c16;clear hb1 hC;have hn1:(1:Int)≤(n:Int):=by have:=HN.out.1;omega
 have hl:(n:Int)<(P.work.pages:Int):=by have:=HN.out.2;omega
 have HF:=hid (gw n old s w1 HP1.out HC.out);unfold ai at HF;go_wp2_with fail;refine HF.out.mono ?_;rintro e w2 ⟨rfl,L2,g2,p2,f2,k2⟩;have HDN:=hid (dB w2 p2);rw [g2] at HDN;have HT:=hid (And.intro g2 (And.intro f2 k2));unfold ai at HDN;clear g2 p2 f2 k2;go_wp2_with fail;refine HDN.out.mono ?_;rintro e w3 ⟨rfl,hr⟩;have HR:=hid (show PTo w L (P.change n old s).wr w3 from PTo.pre (PTo.and HT.out.1 HT.out.2.1 HT.out.2.2 hr) HB1.out);clear hr;go_wp2_with fail;go_ret;exact ⟨rfl,HR.out⟩
theorem jx (n:Nat) (s:By) (w:World) {L:PgL} {P:Pgr} (h:PgIs w L P) (hu:P.Up) (h1:1≤n) (hn:n<P.now.pages) (hc:CanFetch P n s) (hd:(P.fetch n s).d.down=false):
  Calls Tryz.prog 18 #[ai L.gp,.int .i64 n] w fun e w'=>e=.returned (.tuple #[.string (aj s),.int .i64 0])∧PTo w L (P.fetch n s) w':=by
 have HB:=hid (gx w h hu);have HH:=hid h;have HC:=hid (And.intro hc hd);have hn1:(1:Int)≤(n:Int):=by omega
 have hl:(n:Int)<(P.now.pages:Int):=by omega
 unfold ai at *;clear h hu h1 hn hc hd;go_enter Tryz.func18,Tryz.ntmps18;go_wp2_with fail;refine HB.out.mono ?_;rintro e w1 ⟨rfl,hb1⟩;have HP1:=hid (HH.out.below hb1);have HB1:=hid hb1;clear hb1;have HNW:=hid (kO w1 HP1.out);have HPN:=hid (show fJ (if P.busy then P.work else P.head)=fJ P.now from rfl);rw [HPN.out] at HNW;have hf:=zz;generalize P.now=W at *;unfold fJ lN ai at HNW;go_wp2_with fail;refine HNW.out.mono ?_;rintro e w2 ⟨rfl,hb2⟩;have HP2:=hid (HP1.out.below hb2);have HB2:=hid (HB1.out.trans (hb2.mono HB1.out.size));clear hb2;have HF:=hid (ey n s w2 HP2.out HC.out.1);unfold ai at HF;go_wp2_with fail;refine HF.out.mono ?_;rintro e w3 ⟨rfl,L3,g3,p3,f3,c3⟩;have HD:=hid (co w3 p3.dk);rw [HC.out.2] at HD;have c0:=(ag p3.blk).c0;have hlt:=(ag p3.blk).lt;rw [g3] at c0 hlt;unfold ai at c0;have HT:=hid (show PTo w L (P.fetch n s) w3 from PTo.pre ⟨L3,g3,p3,f3,c3⟩ HB2.out);clear g3 p3 f3 c3;go_wp2_with fail;refine HD.out.mono ?_;rintro e w4 ⟨rfl,rfl⟩;go_wp2_with fail;go_ret2;exact ⟨rfl,HT.out⟩
theorem mX (n:Nat) (w:World) {L:PgL} {P:Pgr} (h:PgIs w L P) (hu:P.Up) (hn:P.now.pages≤n) (h1:1≤n):
  Calls Tryz.prog 18 #[ai L.gp,.int .i64 n] w fun e w'=>e=.returned (.tuple #[.string ⟨#[]⟩,.int .i64 21])∧Below w.heap.size w w':=by
 have HB:=hid (gx w h hu);have HH:=hid h;have hn1:(1:Int)≤(n:Int):=by omega
 have hl:(P.now.pages:Int)≤(n:Int):=by omega
 unfold ai at *;clear h hu h1 hn;go_enter Tryz.func18,Tryz.ntmps18;go_wp2_with fail;refine HB.out.mono ?_;rintro e w1 ⟨rfl,hb1⟩;have HP1:=hid (HH.out.below hb1);have HB1:=hid hb1;clear hb1;have HNW:=hid (kO w1 HP1.out);have HPN:=hid (show fJ (if P.busy then P.work else P.head)=fJ P.now from rfl);rw [HPN.out] at HNW;have hf:=zz;generalize P.now=W at *;unfold fJ lN ai at HNW;go_wp2_with fail;refine HNW.out.mono ?_;rintro e w2 ⟨rfl,hb2⟩;have HB2:=hid (HB1.out.trans (hb2.mono HB1.out.size));clear hb2;go_wp2_with fail;go_ret2;exact ⟨rfl,HB2.out⟩
def yr (N:Nat) (n:Int):Int:=if n<1∨(N:Int)≤n then 21 else 0
def yq (B:Int→By) (N:Nat) (n:Int):By:=if n<1∨(N:Int)≤n then [] else B n
theorem Rz.same {P:Pgr} {A:Ab} {t:Nat} (h:Rz P A t) (ht:t≤74):Rz P A (t+1):=h.later (by omega) (by omega)
theorem RTo.refl {w:World} {L:PgL} {P:Pgr} {A:Ab} {t:Nat} (h:PgIs w L P) (hr:Rz P A t) (ht:t≤74):RTo w L A (t+1) w:=⟨P,hr.same ht,PTo.refl h⟩
structure FetR (P:Pgr) (A:Ab) (t n:Nat):Prop where
 can:CanFetch P n (A.pgs n)
 r:Rz (P.fetch n (A.pgs n)) A (t+1)
 down:(P.fetch n (A.pgs n)).d.down=false
theorem Rz.fetch {P:Pgr} {A:Ab} {t n:Nat} (h:Rz P A t) (ht:t≤74) (h1:1≤n) (hn:n<A.now.pages):FetR P A t n:=by
 obtain ⟨N,B,u,sv,hN,hNt,hB⟩:=h.pg;have hl:=h.lgn;have hF:=oX (s:=B n) u (by omega) h1 (by omega) (.inl ⟨by omega,rfl⟩);rw [hB n h1 hn] at hF;have hsv:(P.fetch n (A.pgs n)).saves=P.saves:=by rw [hF.same.1]
 exact ⟨hF.can,h.calm hF.same.x (by have:=hF.lg;omega) ht (fun hb=>⟨by rw [hsv];exact (h.idle hb).2.1,(sE u (h.busy.trans hb) n _).trans (h.idle hb).2.2⟩) (fun _ _ k=>by
  obtain ⟨b1,b2,b3,b4⟩:=kj k.cl n (A.pgs n);have hmk:(P.fetch n (A.pgs n)).mark=P.mark:=by rw [hF.same.1]
  exact ⟨b1.trans k.nt,b4,fun l hl=>by rw [hmk];exact k.lg l (b2.symm.trans hl),k.W,k.B,k.S,by rw [b3];exact k.im⟩) hF.u (by rw [hsv];exact sv) hN hNt hB,hF.u.up.down⟩
theorem vT (n:Int) (w:World) {L:PgL} {P:Pgr} {A:Ab} {t:Nat} (h:PgIs w L P) (hs:Rz P A t) (ht:t≤74):
  Calls Tryz.prog 18 #[ai L.gp,.int .i64 n] w fun e w'=>e=.returned (.tuple #[.string (aj (yq A.pgs A.now.pages n)),.int .i64 (yr A.now.pages n)])∧RTo w L A (t+1) w':=by
 by_cases hn:n<1
 ·have HE:=hid (show yr A.now.pages n=21∧yq A.pgs A.now.pages n=[] from ⟨by unfold yr;rw [if_pos (.inl hn)],by unfold yq;rw [if_pos (.inl hn)]⟩);have HB:=hid (gx w h hs.up);have HR:=hid (fun (w1:World) (hb1:Below w.heap.size w w1)=>(RTo.refl h hs ht).post hb1);have hn2:decide (n<1)=true:=decide_eq_true hn;unfold ai at *;clear h hs ht;go_enter Tryz.func18,Tryz.ntmps18;go_wp2_with fail;refine HB.out.mono ?_;rintro e w1 ⟨rfl,hb1⟩;have HB1:=hid hb1;clear hb1;go_wp2_with fail;go_ret2;exact ⟨by rw [HE.out.1,HE.out.2];rfl,HR.out _ HB1.out⟩
 ·obtain ⟨m,rfl⟩:∃ m:Nat,n=m:=⟨n.toNat,by omega⟩;by_cases hg:(A.now.pages:Int)≤(m:Int)
  ·refine (mX m w h hs.up (by rw [hs.now];omega) (by omega)).mono ?_;rintro e w1 ⟨rfl,hb⟩;refine ⟨?_,(RTo.refl h hs ht).post hb⟩;rw [show yr A.now.pages m=21 by unfold yr;rw [if_pos (.inr hg)],show yq A.pgs A.now.pages m=[] by unfold yq;rw [if_pos (.inr hg)]];rfl
  ·have hF:=hs.fetch ht (n:=m) (by omega) (by omega);refine (jx m (A.pgs m) w h hs.up (by omega) (by rw [hs.now];omega) hF.can hF.down).mono ?_;rintro e w1 ⟨rfl,hp⟩;refine ⟨?_,_,hF.r,hp⟩;rw [show yr A.now.pages m=0 by unfold yr;rw [if_neg (by omega)],show yq A.pgs A.now.pages m=A.pgs m by unfold yq;rw [if_neg (by omega)]]
def ta (N:Nat) (n:Int) (s:By):Int:=if n<1∨(N:Int)≤n then 21 else if s.length=232 then 0 else 1
def Ab.put (A:Ab) (n:Int) (s:By):Ab:=if ta A.W.pages n s=0 then { A with B:=fU A.B n s,wrote:=true } else A
structure ChaR (P:Pgr) (A:Ab) (t n:Nat) (old s:By):Prop where
 can:CanChange P n old s
 r:Rz (P.change n old s).wr { A with B:=fU A.B n s,wrote:=true } (t+1)
theorem Rz.change {P:Pgr} {A:Ab} {t n:Nat} {s:By} (h:Rz P A t) (hb:A.busy=true) (ht:t≤74) (h1:1≤n) (hn:n<A.W.pages) (hs:s.length=232):∃ old,ChaR P A t n old s:=by
 obtain ⟨N,B,u,sv,hN,hNt,hB⟩:=h.pg;have hl:=h.lgn;have enow:A.now=A.W:=by unfold Ab.now;rw [hb];rfl
 have epgs:A.pgs=A.B:=by unfold Ab.pgs;rw [hb];rfl
 rw [enow] at hN hB;rw [epgs] at hB;obtain ⟨old,hC⟩:=mm (s:=s) u sv (h.busy.trans hb) (by omega) h1 (by omega) (.inl rfl) u.N hs;refine ⟨old,hC.can,?_⟩;have hw:(P.change n old s).work=A.W:=by rw [hC.same.1];exact h.work hb
 have e:({ A with B:=fU A.B n s,wrote:=true }:Ab)={ A with W:=A.W,B:=fU A.B n s,wrote:=true,S:=A.S }:=rfl;rw [e];refine h.next hb (Q:=(P.change n old s).wr) (hC.same.keep.trans ⟨rfl,rfl,rfl,rfl,rfl,rfl,rfl,rfl,rfl,rfl,rfl⟩) (by have:=hC.lg;show aN (P.change n old s).lg≤_;omega) ht hw rfl (h.wok hb) (by have:=h.wp hb;omega) ⟨rfl,rfl⟩ (fun x=>by cases x) h.svk2 (hC.u.setWork (P.change n old s).work true) hC.sv hN (by omega) fun m m1 m2=>?_
 unfold fU
 split
 ·rfl
 ·exact hB m m1 m2
theorem vR (n:Int) (s:By) (w:World) {L:PgL} {P:Pgr} {A:Ab} {t:Nat} (h:PgIs w L P) (hs:Rz P A t) (hb:A.busy=true) (ht:t≤74):
  Calls Tryz.prog 38 #[ai L.gp,.int .i64 n,.string (aj s)] w fun e w'=>e=.returned (.int .i64 (ta A.W.pages n s))∧RTo w L (A.put n s) (t+1) w':=by
 have hbP:P.busy=true:=hs.busy.trans hb;by_cases hx:1≤n∧n<(A.W.pages:Int)∧s.length=232
 ·obtain ⟨m,rfl⟩:∃ m:Nat,n=m:=⟨n.toNat,by omega⟩;obtain ⟨old,hC⟩:=hs.change hb ht (n:=m) (s:=s) (by omega) (by omega) hx.2.2;refine (gK m old s w h hs.up hbP (by omega) (by rw [hs.work hb];omega) hx.2.2 hC.can).mono ?_;rintro e w1 ⟨rfl,hp⟩;have h0:ta A.W.pages m s=0:=by unfold ta;rw [if_neg (by omega),if_pos hx.2.2]
  refine ⟨by rw [h0],_,?_,hp⟩;unfold Ab.put;rw [h0,if_pos rfl];exact hC.r
 ·have hE0:ta A.W.pages n s≠0:=fun h0=>by
   unfold ta at h0
   split at h0
   ·cases h0
   ·split at h0
    ·omega
    ·cases h0
  have HE:=hid (show A.put n s=A from by unfold Ab.put;rw [if_neg hE0]);have HR:=hid (fun (w1:World) (hb1:Below w.heap.size w w1)=>(RTo.refl h hs ht).post hb1);have hu:=hs.up;have HWK:=hid (hs.work hb);have hz:=aw s;rw [HE.out];clear HE hE0 hs ht hb;have hb:=hbP;have hA:Below w.heap.size w (w.alloc (.cells #[.bool true] 4)):=(Below.refl _ w).alloc (Nat.le_refl _) _;have hX:(w.alloc (.cells #[.bool true] 4)).heap[w.heap.size]?=some (.cells #[.bool true] 4 (0,0)):=af rfl;have HB:=hid (ak true w.heap.size _ (h.below hA) hu (aa hX 0) (ab hX));rw [hb,show bV (some true) true=0 from rfl] at HB;have HA:=hid hA;have HH:=hid h;have HU:=hid (And.intro hu hb);unfold ai at *;clear h hu hb hA hX;go_enter Tryz.func38,Tryz.ntmps38;go_wp2_with fail;refine HB.out.mono ?_;rintro e w1 ⟨rfl,hb1⟩;have HB1:=hid (HA.out.trans (hb1.mono HA.out.size));have HP1:=hid (HH.out.below HB1.out);have hC:=ag HP1.out.blk;have hlt:=hC.lt;have c16:=hC.c16;rw [HWK.out] at c16;clear hb1 hC;by_cases hn:n<1
  ·have HE:=hid (show ta A.W.pages n s=21 by unfold ta;rw [if_pos (.inl hn)]);have hn2:decide (n<1)=true:=decide_eq_true hn;go_wp2_with fail;go_ret;exact ⟨by rw [HE.out];rfl,HR.out _ HB1.out⟩
  ·have hn1:(1:Int)≤n:=by omega
   by_cases hg:(A.W.pages:Int)≤n
   ·have HE:=hid (show ta A.W.pages n s=21 by unfold ta;rw [if_pos (.inr hg)]);go_wp2_with fail;go_ret;exact ⟨by rw [HE.out];rfl,HR.out _ HB1.out⟩
   ·have hl:n<(A.W.pages:Int):=by omega
    have h232:¬ s.length=232:=fun e=>hx ⟨hn1,hl,e⟩
    have HE:=hid (show ta A.W.pages n s=1 by unfold ta;rw [if_neg (by omega),if_neg h232]);have hz2:(((aj s).size:Int) != 232)=true:=by simp only [bne_iff_ne];omega
    have hz3:¬ (aj s).size=232:=by omega
    clear hz;go_wp2_with fail;go_ret;exact ⟨by rw [HE.out];rfl,HR.out _ HB1.out⟩
theorem aY (v:Value) (w:World) {L:PgL} {P:Pgr} (h:PgIs w L P) (hd:P.over=true∨P.d.down=true∨P.d.life≠P.life):
  Calls Tryz.prog 53 #[ai L.gp,v] w fun e w'=>e=.returned (.int .i64 10)∧PTo w L { P with over:=true } w':=by
 have hC:=ag h.blk;have hl:=hC.lt;have c0:=hC.c0;have c10:=hC.c10;have c11:=hC.c11;have HD:=hid (fun (y:Up w)=>co y.w (h.dk.ch (Ch.of_below (S:=fun _=>False) y.h) (fun _ _ h=>h)));have HL:=hid (fun (y:Up w)=>dn y.w (h.dk.ch (Ch.of_below (S:=fun _=>False) y.h) (fun _ _ h=>h)));have HH:=hid h;have HDD:=hid hd;unfold ai at *;clear h hC hd;go_enter Tryz.func53,Tryz.ntmps53;cases ho:P.over
 ·rw [ho] at c11;cases hd:P.d.down
  ·have hlf:((P.d.life:Int) != P.life)=true:=by
    rcases HDD.out with h | h | h
    ·rw [ho] at h;cases h
    ·rw [hd] at h;cases h
    ·simpa using h
   rw [hd] at HD;clear ho hd;go_upto_region 3 with fail
   refine am (by kernel_rfl) (by kernel_rfl) ?_;have f0:=ay c0 hl;have f10:=ay c10 hl;have f11:=ay c11 hl
   repeat (go_big_quiet_step (first
    | (go_at_call 63;(with_reducible exact bm (HD.out _)))
    | (go_at_call 44;(with_reducible exact bm (HL.out _)))))
   refine wpQuiet_nil ?_;rintro w1 ⟨⟨_,hb1⟩,rfl⟩;have HB1:=hid hb1;have HP1:=hid (HH.out.below hb1);have hC:=ag HP1.out.blk;have k11:=hC.c11;have z11:=hC.fz 11;have kl:=hC.lt
   have HF:=hid (show ∀ w2,w2=w1.setCell ⟨L.gp,11,none⟩ (.bool true)→PTo w L { P with over:=true } w2 from fun w2 hw=>by
    rw [hw];exact PTo.pre (HP1.out.cell 11 (.bool true) (ae HP1.out.blk 11 (.bool true)) rfl rfl rfl rfl rfl ⟨HP1.out.ok.s1,HP1.out.ok.s2,HP1.out.ok.base,HP1.out.ok.hp,HP1.out.ok.wp,HP1.out.ok.nos⟩) HB1.out)
   clear hb1 hC c0 c10 c11 f0 f10 f11;go_wp2_with fail;go_ret;exact ⟨rfl,HF.out _ rfl⟩
  ·rw [hd] at HD;clear ho hd;go_upto_region 3 with fail
   refine am (by kernel_rfl) (by kernel_rfl) ?_;have f0:=ay c0 hl;have f10:=ay c10 hl;have f11:=ay c11 hl
   repeat (go_big_quiet_step (first
    | (go_at_call 63;(with_reducible exact bm (HD.out _)))
    | (go_at_call 44;(with_reducible exact bm (HL.out _)))))
   refine wpQuiet_nil ?_;rintro w1 ⟨⟨_,hb1⟩,rfl⟩;have HB1:=hid hb1;have HP1:=hid (HH.out.below hb1);have hC:=ag HP1.out.blk;have k11:=hC.c11;have z11:=hC.fz 11;have kl:=hC.lt
   have HF:=hid (show ∀ w2,w2=w1.setCell ⟨L.gp,11,none⟩ (.bool true)→PTo w L { P with over:=true } w2 from fun w2 hw=>by
    rw [hw];exact PTo.pre (HP1.out.cell 11 (.bool true) (ae HP1.out.blk 11 (.bool true)) rfl rfl rfl rfl rfl ⟨HP1.out.ok.s1,HP1.out.ok.s2,HP1.out.ok.base,HP1.out.ok.hp,HP1.out.ok.wp,HP1.out.ok.nos⟩) HB1.out)
   clear hb1 hC c0 c10 c11 f0 f10 f11;go_wp2_with fail;go_ret;exact ⟨rfl,HF.out _ rfl⟩
 ·rw [ho] at c11;clear ho;go_upto_region 3 with fail
  refine am (by kernel_rfl) (by kernel_rfl) ?_;have f0:=ay c0 hl;have f10:=ay c10 hl;have f11:=ay c11 hl
  repeat (go_big_quiet_step (first
   | (go_at_call 63;(with_reducible exact bm (HD.out _)))
   | (go_at_call 44;(with_reducible exact bm (HL.out _)))))
  refine wpQuiet_nil ?_;rintro w1 ⟨⟨_,hb1⟩,rfl⟩;have HB1:=hid hb1;have HP1:=hid (HH.out.below hb1);have hC:=ag HP1.out.blk;have k11:=hC.c11;have z11:=hC.fz 11;have kl:=hC.lt
  have HF:=hid (show ∀ w2,w2=w1.setCell ⟨L.gp,11,none⟩ (.bool true)→PTo w L { P with over:=true } w2 from fun w2 hw=>by
   rw [hw];exact PTo.pre (HP1.out.cell 11 (.bool true) (ae HP1.out.blk 11 (.bool true)) rfl rfl rfl rfl rfl ⟨HP1.out.ok.s1,HP1.out.ok.s2,HP1.out.ok.base,HP1.out.ok.hp,HP1.out.ok.wp,HP1.out.ok.nos⟩) HB1.out)
  clear hb1 hC c0 c10 c11 f0 f10 f11;go_wp2_with fail;go_ret;exact ⟨rfl,HF.out _ rfl⟩
theorem mY (n:Int) (w:World) {L:PgL} {P:Pgr} (h:PgIs w L P) (hd:P.over=true∨P.d.down=true∨P.d.life≠P.life):
  Calls Tryz.prog 18 #[ai L.gp,.int .i64 n] w fun e w'=>e=.returned (.tuple #[.string ⟨#[]⟩,.int .i64 10])∧PTo w L { P with over:=true } w':=by
 have HB:=hid (aY (.slice none 0 0) w h hd);unfold ai at *;clear h hd;go_enter Tryz.func18,Tryz.ntmps18;go_wp2_with fail;refine HB.out.mono ?_;rintro e w1 ⟨rfl,hr⟩;have HR:=hid hr;clear hr;go_wp2_with fail;go_ret2;exact ⟨rfl,HR.out⟩
end Go.Proofs.YtdmhbgpejppbkaaGreat
namespace Go.Proofs.YtdmhbgpejppbkaaGreat
open Go.Lib (hid)
open Go.RowKit Go.Maps
theorem xX (p:He × Nat):∀ u ∈ mO p,u.oneCell'=true:=by intro u hu;simp only [mO,List.mem_cons,List.not_mem_nil,or_false] at hu;rcases hu with rfl | rfl | rfl | rfl | rfl | rfl | rfl <;> rfl
theorem Cf:ElemT Tryz.prog 75 114 mO 7 56:=
 ElemT.mk' (z:=.agg #[.int .i64 0,.int .i64 0,.int .i64 0,.int .i64 0,.int .i64 0,.int .u64 0,.map none]) Tryz.underlying75 (by kernel_rfl) (by rfl) (by omega) cL xX
def Pgr.saved (P:Pgr):Pgr:={ P with saves:=P.saves ++ [⟨P.work,[]⟩] }
theorem PgIs.newSv {w w1 w2:World} {L:PgL} {P:Pgr} {v':Value} {gN:Nat} (h:PgIs w L P) (hb:Below w.heap.size w w1) (hg1:w.heap.size≤gN) (hg2:gN<w1.heap.size) (hm:fu w1 gN []) (hr:Own mO 7 114 0 w2 v' ((P.saves.map (·.head)).zip L.gs ++ [(P.work,gN)]))
  (hgr:w1.grownBy w2 L.vs.ownBlock) (hat:v'.ownBlock=L.vs.ownBlock∨v'.ownBlock=some w1.heap.size) (hn:P.saves.length<16):PTo w L P.saved (w2.setCell ⟨L.gp,21,none⟩ v'):=by
 have hc2:Ch (fun k=>L.vs.ownBlock=some k) w1 w2:=Ch.of_grown hgr fun k hk=>hk
 have hs1:=hb.size;have hs2:=hc2.size;have hA:=h.apart;have hvF:∀ k,L.vs.ownBlock=some k→kk L.vs L.gs k:=fun k hk=>.inl hk
 have hgl:=h.sv.len;have hgi:∀ k ∈ L.gs,k<w.heap.size:=fun k hk=>h.sv.lt (.inr hk)
 have hSv:SvIs w2 v' (L.gs ++ [gN]) P.saved.saves:=by
  refine ⟨?_,by simp [Pgr.saved,hgl],fun p hp=>?_,?_,fun k hk e=>?_⟩
  ·unfold Pgr.saved;rw [List.map_append,List.zip_append (by rw [List.length_map,hgl])];exact hr
  ·unfold Pgr.saved at hp;rw [List.zip_append hgl] at hp;rcases List.mem_append.1 hp with hp | hp
   ·have h1:=h.sv.im p hp;have hpm:=(List.of_mem_zip hp).1;exact (h1.ch (S:=fun _=>False) (Ch.of_below hb) id).ch hc2 fun e=>h.sv.ne _ hpm e
   ·simp only [List.zip_cons_cons,List.zip_nil_right,List.mem_singleton] at hp;rw [hp];exact hm.ch hc2 fun e=>by have:=h.sv.lt (k:=gN) (.inl e);omega
  ·rw [List.nodup_append];exact ⟨h.sv.nd,by simp,fun a ha b hb e=>by rw [List.mem_singleton.1 hb] at e;have:=hgi a ha;omega⟩
  ·rcases hat with hat | hat
   ·rw [hat] at e;rcases List.mem_append.1 hk with hk | hk
    ·exact h.sv.ne k hk e
    ·rw [List.mem_singleton.1 hk] at e;have:=h.sv.lt (.inl e);omega
   ·rw [hat] at e;injection e with e
    rcases List.mem_append.1 hk with hk | hk
    ·have:=hgi k hk;omega
    ·rw [List.mem_singleton.1 hk] at e;omega
 have a1:=h.sep.below hb
 have hF:∀ k,kk v' (L.gs ++ [gN]) k→kk L.vs L.gs k∨w.heap.size≤k:=fun k hk=>by
  rcases hk with hk | hk
  ·rcases hat with hat | hat
   ·exact .inl (.inl (hat ▸ hk))
   ·rw [hat] at hk;injection hk with hk;right;omega
  ·rcases List.mem_append.1 hk with hk | hk
   ·exact .inl (.inr hk)
   ·rw [List.mem_singleton.1 hk];exact .inr hg1
 have hcw:Ch (fun k=>L.vs.ownBlock=some k) w w2:=(Ch.of_below hb).trans hc2;have a2:=h.sep.upd (l1:=[Ob.blk L.gp (bX L P),gZ L.D P.d,hO L.Fc L.vc P.size P.ca,gY L.D.gd L.N P.notes]) (a:=gy L.vs L.gs P.saves) (b:=gy v' (L.gs ++ [gN]) P.saved.saves) hcw hvF hSv hF;have hblk:w2.heap[L.gp]?=some (bX L P):=hcw.keep h.blk fun e=>hA.ps (.inl e)
 have hc3:Ch (fun k=>k=L.gp) w2 (w2.setCell ⟨L.gp,21,none⟩ v'):=(Ch.refl (fun k=>k=L.gp) w2).setCell (p:=⟨L.gp,21,none⟩) rfl _;have a3:=a2.upd (l1:=[]) (b:=Ob.blk L.gp (bX { L with vs:=v',gs:=L.gs ++ [gN] } P.saved)) hc3 (fun k hk=>hk) (ae hblk 21 v') (fun k hk=>.inl hk);refine ⟨{ L with vs:=v',gs:=L.gs ++ [gN] },rfl,⟨a3,⟨h.ok.s1,h.ok.s2,h.ok.base,h.ok.hp,h.ok.wp,?_⟩,h.gd⟩,fun k hk=>?_,(hcw.mono fun k _ e=>.inr (.inr (.inr (.inr (.inl (.inl e)))))).trans (hc3.mono fun k _ e=>.inl e)⟩
 ·show (P.saves ++ [_]).length≤16;rw [List.length_append];simp only [List.length_cons,List.length_nil];omega
 ·rcases hk with hk | hk | hk | hk | hk | hk
  ·exact .inl (.inl hk)
  ·exact .inl (.inr (.inl hk))
  ·exact .inl (.inr (.inr (.inl hk)))
  ·exact .inl (.inr (.inr (.inr (.inl hk))))
  ·exact (hF k hk).imp (fun e=>.inr (.inr (.inr (.inr (.inl e))))) id
  ·exact .inl (.inr (.inr (.inr (.inr (.inr hk)))))
attribute [local go_sem ↓] fN
theorem mW (w:World) {L:PgL} {P:Pgr} (h:PgIs w L P) (hu:P.Up) (hb:P.busy=true) (hn:P.saves.length<16):
  Calls Tryz.prog 40 #[ai L.gp] w fun e w'=>e=.returned (.int .i64 0)∧PTo w L P.saved w':=by
 have HN:=hid hn;have hmm:=@run_makeMap Tryz.prog;clear hn;have hA:Below w.heap.size w (w.alloc (.cells #[.bool true] 4)):=(Below.refl _ w).alloc (Nat.le_refl _) _;have hX:(w.alloc (.cells #[.bool true] 4)).heap[w.heap.size]?=some (.cells #[.bool true] 4 (0,0)):=af rfl;have HB:=hid (ak true w.heap.size _ (h.below hA) hu (aa hX 0) (ab hX));rw [hb,show bV (some true) true=0 from rfl] at HB;have HA:=hid hA;have HH:=hid h;have HU:=hid (And.intro hu hb);unfold ai at *;clear h hu hb hA hX;go_enter Tryz.func40,Tryz.ntmps40;go_wp2_with fail;refine HB.out.mono ?_;rintro e w1 ⟨rfl,hb1⟩;have HB1:=hid (HA.out.trans (hb1.mono HA.out.size));have HP1:=hid (HH.out.below HB1.out);have hC:=ag HP1.out.blk;have hlt:=hC.lt;obtain ⟨A,c,hv,-⟩:=dz HP1.out.sv;have HV:=hid hv;have c21:=hC.c21;rw [hv] at c21;have hl16:(P.saves.length:Int)<16:=by have:=HN.out;omega
 have c15:=hC.c15;have c16:=hC.c16;have c17:=hC.c17;have c18:=hC.c18;have c19:=hC.c19;have c20:=hC.c20;have z21:=hC.fz 21;clear hb1 hC hv;go_upto_region 6 with fail
 have hBB:Below w1.heap.size w1 ((w1.alloc (.map #[] 0)).alloc (pD (P.work,w1.heap.size))):=((Below.refl _ w1).alloc (Nat.le_refl _) _).alloc (by simp) _;have hsB:((w1.alloc (.map #[] 0)).alloc (pD (P.work,w1.heap.size))).heap.size=w1.heap.size+2:=by simp
 have hmB:fu ((w1.alloc (.map #[] 0)).alloc (pD (P.work,w1.heap.size))).drew w1.heap.size []:=((MpIs.made w1).ch (S:=fun _=>False) (Ch.of_below ((Below.refl _ (w1.alloc (.map #[] 0))).alloc (Nat.le_refl _) _)) id).ch (S:=fun _=>False) (Ch.drew (Ch.refl _ _)) id;have hzl:((P.saves.map (·.head)).zip L.gs).length=P.saves.length:=by rw [List.length_zip,List.length_map,HP1.out.sv.len,Nat.min_self]
 have hn16:=HN.out;obtain ⟨v',w2,hr,ho,hg,hat⟩:=aZ (P:=Tryz.prog) Cf 75 (HP1.out.below hBB.drew).sv.row
  ((Sl.one (w0:=w1.alloc (.map #[] 0)) (g:=w1.heap.size+1) (e:=114) (cs:=(mO (P.work,w1.heap.size)).toArray) (P.work,w1.heap.size) (c:=1) (by simp) cL (by simp)).keep ((Below.refl _ _).drew)) (by rw [hzl];unfold maxLen;simp;omega) (by rw [hzl];simp;omega) (Nat.zero_le _)
 have hr':(dU #[75,75] 75 #[L.vs,.slice (some ⟨w1.heap.size+1,0,none⟩) 1 1]).run Tryz.prog ((w1.alloc (.map #[] 0)).alloc (pD (P.work,w1.heap.size))).drew=.ok v' w2:=hr;have HF:=hid (show PTo w1 L P.saved (w2.setCell ⟨L.gp,21,none⟩ v') from HP1.out.newSv hBB.drew (Nat.le_refl _) (by rw [nH,hsB];omega) hmB ho hg hat HN.out);have hb2:w2.heap[L.gp]?=some (bX L P):=(Ch.of_grown hg fun k hk=>hk:Ch (fun k=>L.vs.ownBlock=some k) _ w2).keep (HP1.out.below hBB.drew).blk fun e=>HP1.out.apart.ps (.inl e)
 have d21:=(ag hb2).c21;have y21:=(ag hb2).fz 21;have yl:=(ag hb2).lt;obtain ⟨A',n',c',hv'⟩:=dW ho;rw [HV.out] at hr' d21;unfold pD mO at hr';subst hv';clear hr ho hg hat hmB hb2 hBB hsB hzl hn16;go_region;go_wp2_with fail;go_ret;exact ⟨rfl,PTo.pre HF.out HB1.out⟩
end Go.Proofs.YtdmhbgpejppbkaaGreat
namespace Go.Proofs.YtdmhbgpejppbkaaGreat
open Go.Lib (hid)
open Go.RowKit Go.Maps
def Pgr.reset (P:Pgr):Pgr:={ P with work:={ P.work with pages:=1,trunk:=0,spare:=0,root:=0 },wrote:=true }
theorem rM (w:World) {L:PgL} {P:Pgr} (h:PgIs w L P) (hu:P.Up) (hb:P.busy=true):
  Calls Tryz.prog 48 #[ai L.gp] w fun e w'=>e=.returned (.int .i64 0)∧PTo w L P.reset w':=by
 have hA:Below w.heap.size w (w.alloc (.cells #[.bool true] 4)):=(Below.refl _ w).alloc (Nat.le_refl _) _;have hX:(w.alloc (.cells #[.bool true] 4)).heap[w.heap.size]?=some (.cells #[.bool true] 4 (0,0)):=af rfl;have HB:=hid (ak true w.heap.size _ (h.below hA) hu (aa hX 0) (ab hX));rw [hb,show bV (some true) true=0 from rfl] at HB;have HA:=hid hA;have HH:=hid h;have HU:=hid (And.intro hu hb);unfold ai at *;clear h hu hb hA hX;go_enter Tryz.func48,Tryz.ntmps48;go_wp2_with fail;refine HB.out.mono ?_;rintro e w1 ⟨rfl,hb1⟩;have HB1:=hid (HA.out.trans (hb1.mono HA.out.size));have HP1:=hid (HH.out.below HB1.out);have hC:=ag HP1.out.blk;have hlt:=hC.lt;have c16:=hC.c16;have c17:=hC.c17;have c18:=hC.c18;have c19:=hC.c19;have z16:=hC.fz 16;have z17:=hC.fz 17;have z18:=hC.fz 18;have z19:=hC.fz 19;clear hb1 hC;obtain ⟨w2,hw2⟩:∃ w2,(((w1.setCell ⟨L.gp,16,none⟩ (.int .i64 1)).setCell ⟨L.gp,17,none⟩ (.int .i64 0)).setCell ⟨L.gp,18,none⟩ (.int .i64 0)).setCell ⟨L.gp,19,none⟩ (.int .i64 0)=w2:=⟨_,rfl⟩;have hc:Ch (fun k=>k=L.gp) w1 w2:=by rw [← hw2];exact ((((Ch.refl (fun k=>k=L.gp) w1).setCell (p:=⟨L.gp,16,none⟩) rfl _).setCell (p:=⟨L.gp,17,none⟩) rfl _).setCell (p:=⟨L.gp,18,none⟩) rfl _).setCell (p:=⟨L.gp,19,none⟩) rfl _
 have hbk:w2.heap[L.gp]?=some (bX L { P with work:={ P.work with pages:=1,trunk:=0,spare:=0,root:=0 } }):=by rw [← hw2];exact ae (ae (ae (ae HP1.out.blk 16 (.int .i64 1)) 17 (.int .i64 0)) 18 (.int .i64 0)) 19 (.int .i64 0)
 have hp2:PgIs w2 L { P with work:={ P.work with pages:=1,trunk:=0,spare:=0,root:=0 } }:=HP1.out.setBlk hc hbk rfl rfl rfl rfl rfl ⟨HP1.out.ok.s1,HP1.out.ok.s2,HP1.out.ok.base,HP1.out.ok.hp,by show (1:Nat)≤4096;omega,HP1.out.ok.nos⟩;have HDN:=hid (dB _ hp2);have HT:=hid (fun (w3:World) (hr:PTo w2 L P.reset w3)=>PTo.pre (PTo.and (w1:=w2) (L1:=L) rfl (fun _ hk=>.inl hk) (hc.mono fun _ _ e=>.inl e) hr) HB1.out);unfold ai at HDN;clear hc hbk hp2;go_wp2_with fail;refine HDN.out.mono ?_;rintro e w3 ⟨rfl,hr⟩;have HR:=hid (show PTo w L P.reset w3 from HT.out _ hr);go_wp2_with fail;go_ret;exact ⟨rfl,HR.out⟩
end Go.Proofs.YtdmhbgpejppbkaaGreat
