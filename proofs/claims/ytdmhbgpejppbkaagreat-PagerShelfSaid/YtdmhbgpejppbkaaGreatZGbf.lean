/- pager: Get, Put, Root in a transaction. pager: Root, New, Free in a transaction. pager: Free in a transaction. shelf: New, begin, Get, Put. -/
import Derived.Test.YtdmhbgpejppbkaaGreatZGbe
import Derived.Test.YtdmhbgpejppbkaaGreatZGbb
set_option maxRecDepth 100000
set_option maxHeartbeats 2000000
namespace Go.Proofs.YtdmhbgpejppbkaaGreat
open Go.Lib (hid)
open Go.RowKit Go.Maps
theorem qj (a b c d e f:Int) (w:World):(Instr.field 38 (.agg #[.int .i64 a,.int .i64 b,.int .i64 c,.int .i64 d,.int .i64 e,.int .u64 f]) 1).run Tryz.prog w=.ok (.int .i64 b) w:=by kernel_rfl
def kV (N:Nat) (n:Int):Int:=if n<1∨(N:Int)≤n then 21 else 0
def oY (B:Int→By) (N:Nat) (n:Int):By:=if n<1∨(N:Int)≤n then [] else B n
theorem St.now {P:Pgr} {B:Int→By} {W:He} (h:St P B W):P.now=W:=by unfold Pgr.now;rw [h.busy];exact h.work
theorem pQ (n:Int) (w:World) {L:PgL} {P:Pgr} {B:Int→By} {W:He} (h:PgIs w L P) (hs:St P B W):
  Calls Tryz.prog 18 #[au L.gp,.int .i64 n] w fun e w'=>e=.returned (.tuple #[.string (ak (oY B W.pages n)),.int .i64 (kV W.pages n)])∧StTo w L B W w':=by
 have HB:=hid (en w h hs.vw.up);have HH:=hid h;have HS:=hid hs;unfold au at *;clear h hs;go_enter Tryz.func18,Tryz.ntmps18;go_wp2_with fail;refine HB.out.mono ?_;rintro e w1 ⟨rfl,hb1⟩;have HP1:=hid (HH.out.below hb1);have HB1:=hid hb1;clear hb1;by_cases hn:n<1
 ·have HE:=hid (show kV W.pages n=21∧oY B W.pages n=[] from ⟨by unfold kV;rw [if_pos (.inl hn)],by unfold oY;rw [if_pos (.inl hn)]⟩);have hn2:decide (n<1)=true:=decide_eq_true hn;go_wp2_with fail;go_ret2;exact ⟨by rw [HE.out.1,HE.out.2];rfl,_,HS.out,(PTo.refl HH.out).post HB1.out⟩
 ·have hn1:(1:Int)≤n:=by omega
  have HNW:=hid (fk w1 HP1.out);have HPN:=hid (show (if P.busy then P.work else P.head)=W from HS.out.now);rw [HPN.out] at HNW;have hf:=qj;unfold eH ko au at HNW;go_wp2_with fail;refine HNW.out.mono ?_;rintro e w2 ⟨rfl,hb2⟩;have HP2:=hid (HP1.out.below hb2);have HB2:=hid (HB1.out.trans (hb2.mono HB1.out.size));clear hb2;by_cases hg:(W.pages:Int)≤n
  ·have HE:=hid (show kV W.pages n=21∧oY B W.pages n=[] from ⟨by unfold kV;rw [if_pos (.inr hg)],by unfold oY;rw [if_pos (.inr hg)]⟩);go_wp2_with fail;go_ret2;exact ⟨by rw [HE.out.1,HE.out.2];rfl,_,HS.out,(PTo.refl HH.out).post HB2.out⟩
  ·have hl:n<(W.pages:Int):=by omega
   have HE:=hid (show kV W.pages n=0∧oY B W.pages n=B n from ⟨by unfold kV;rw [if_neg (by omega)],by unfold oY;rw [if_neg (by omega)]⟩);obtain ⟨m,rfl⟩:∃ m:Nat,n=m:=⟨n.toNat,by omega⟩;have ho:=lu HS.out.vw (n:=m) (by omega) (by omega);have HF:=hid (cE m (B m) w2 HP2.out ho.1);have HO:=hid ho.2;unfold au at HF;clear ho;go_wp2_with fail;refine HF.out.mono ?_;rintro e w3 ⟨rfl,L3,g3,p3,f3,c3⟩;have HD:=hid (bL w3 p3.dk);have hdn:(P.fetch m (B m)).d.down=false:=HO.out.1.up.down;rw [hdn] at HD;have c0:=(ai p3.blk).c0;have hlt:=(ai p3.blk).lt;rw [g3] at c0 hlt;unfold au at c0;have HT:=hid (show StTo w L B W w3 from ⟨_,HS.out.same HO.out.2 HO.out.1,PTo.pre ⟨L3,g3,p3,f3,c3⟩ HB2.out⟩);clear g3 p3 f3 c3 hdn;go_wp2_with fail;refine HD.out.mono ?_;rintro e w4 ⟨rfl,rfl⟩;go_wp2_with fail;go_ret2;exact ⟨by rw [HE.out.1,HE.out.2];rfl,HT.out⟩
def iX (N:Nat) (n:Int) (s:By):Int:=if n<1∨(N:Int)≤n then 21 else if s.length=232 then 0 else 1
def mc (B:Int→By) (N:Nat) (n:Int) (s:By):Int→By:=if iX N n s=0 then gY B n s else B
theorem pO (n:Int) (s:By) (w:World) {L:PgL} {P:Pgr} {B:Int→By} {W:He} (h:PgIs w L P) (hs:St P B W):
  Calls Tryz.prog 38 #[au L.gp,.int .i64 n,.string (ak s)] w fun e w'=>e=.returned (.int .i64 (iX W.pages n s))∧StTo w L (mc B W.pages n s) W w':=by
 have hA:Below w.heap.size w (w.alloc (.cells #[.bool true] 4)):=(Below.refl _ w).alloc (Nat.le_refl _) _;have hX:(w.alloc (.cells #[.bool true] 4)).heap[w.heap.size]?=some (.cells #[.bool true] 4 (0,0)):=ah rfl;have HB:=hid (aN true w.heap.size _ (h.below hA) hs.vw.up (aa hX 0) (af hX));rw [hs.busy,show fG (some true) true=0 from rfl] at HB;have HA:=hid hA;have HH:=hid h;have HS:=hid hs;have hz:=ay s;unfold au at *;clear h hs hA hX;go_enter Tryz.func38,Tryz.ntmps38;go_wp2_with fail;refine HB.out.mono ?_;rintro e w1 ⟨rfl,hb1⟩;have HB1:=hid (HA.out.trans (hb1.mono HA.out.size));have HP1:=hid (HH.out.below HB1.out);have hC:=ai HP1.out.blk;have c16:=hC.c16;have hlt:=hC.lt;rw [HS.out.work] at c16;clear hb1 hC;by_cases hn:n<1
 ·have HE:=hid (show iX W.pages n s=21∧mc B W.pages n s=B from by
   have h1:iX W.pages n s=21:=by unfold iX;rw [if_pos (.inl hn)]
   exact ⟨h1,by unfold mc;rw [h1,if_neg (by decide)]⟩)
  have hn2:decide (n<1)=true:=decide_eq_true hn;go_wp2_with fail;go_ret;exact ⟨by rw [HE.out.1];rfl,by rw [HE.out.2];exact ⟨_,HS.out,(PTo.refl HH.out).post HB1.out⟩⟩
 ·have hn1:(1:Int)≤n:=by omega
  by_cases hg:(W.pages:Int)≤n
  ·have HE:=hid (show iX W.pages n s=21∧mc B W.pages n s=B from by
    have h1:iX W.pages n s=21:=by unfold iX;rw [if_pos (.inr hg)]
    exact ⟨h1,by unfold mc;rw [h1,if_neg (by decide)]⟩)
   go_wp2_with fail;go_ret;exact ⟨by rw [HE.out.1];rfl,by rw [HE.out.2];exact ⟨_,HS.out,(PTo.refl HH.out).post HB1.out⟩⟩
  ·have hl:n<(W.pages:Int):=by omega
   by_cases h232:s.length=232
   ·have HE:=hid (show iX W.pages n s=0∧mc B W.pages n s=gY B n s from by
     have h1:iX W.pages n s=0:=by unfold iX;rw [if_neg (by omega),if_pos h232]
     exact ⟨h1,by unfold mc;rw [h1,if_pos rfl]⟩)
    obtain ⟨m,rfl⟩:∃ m:Nat,n=m:=⟨n.toNat,by omega⟩;have hN:=HS.out.w.p2;have ho:=gQ (s:=s) (dt:=true) HS.out.vw (n:=m) (by omega) (show m<W.pages by omega) (.inl rfl) hN h232 (.inl rfl);have HF:=hid (cV m s w1 HP1.out (by rw [HS.out.vw.base];exact Nat.zero_le _) HS.out.vw.saves (by omega) ho.1 ho.2.1);have HO:=hid ho.2.2;unfold au at HF;have hz2:(ak s).size=232:=by rw [hz,h232]
    clear ho hz h232 hN;go_wp2_with fail;refine HF.out.mono ?_;rintro e w2 ⟨rfl,L2,g2,p2,f2,k2⟩;have HDN:=hid (cF w2 p2);rw [g2] at HDN;have HT:=hid (And.intro g2 (And.intro f2 k2));unfold au at HDN;clear g2 p2 f2 k2;go_wp2_with fail;refine HDN.out.mono ?_;rintro e w3 ⟨rfl,hr⟩;have HR:=hid (show StTo w L (mc B W.pages m s) W w3 from by
     rw [HE.out.2];refine ⟨_,?_,PTo.pre (PTo.and HT.out.1 HT.out.2.1 HT.out.2.2 hr) HB1.out⟩;have h1:=HS.out.same HO.out.2 HO.out.1;exact ⟨h1.vw.wrote true,h1.busy,h1.work,h1.w⟩)
    clear hr;go_wp2_with fail;go_ret;exact ⟨by rw [HE.out.1];rfl,HR.out⟩
   ·have HE:=hid (show iX W.pages n s=1∧mc B W.pages n s=B from by
     have h1:iX W.pages n s=1:=by unfold iX;rw [if_neg (by omega),if_neg h232]
     exact ⟨h1,by unfold mc;rw [h1,if_neg (by decide)]⟩)
    have hz2:(((ak s).size:Int) != 232)=true:=by simp only [bne_iff_ne];omega
    have hz3:¬ (ak s).size=232:=by omega
    clear hz;go_wp2_with fail;go_ret;exact ⟨by rw [HE.out.1];rfl,by rw [HE.out.2];exact ⟨_,HS.out,(PTo.refl HH.out).post HB1.out⟩⟩
def kB (N:Nat) (n:Int):Int:=if n<0∨(N:Int)≤n then 21 else 0
def nR (W:He) (n:Int):He:=if kB W.pages n=0 then { W with root:=n.toNat } else W
theorem nX (n:Int) (w:World) {L:PgL} {P:Pgr} {B:Int→By} {W:He} (h:PgIs w L P) (hs:St P B W):
  Calls Tryz.prog 47 #[au L.gp,.int .i64 n] w fun e w'=>e=.returned (.int .i64 (kB W.pages n))∧StTo w L B (nR W n) w':=by
 have hA:Below w.heap.size w (w.alloc (.cells #[.bool true] 4)):=(Below.refl _ w).alloc (Nat.le_refl _) _;have hX:(w.alloc (.cells #[.bool true] 4)).heap[w.heap.size]?=some (.cells #[.bool true] 4 (0,0)):=ah rfl;have HB:=hid (aN true w.heap.size _ (h.below hA) hs.vw.up (aa hX 0) (af hX));rw [hs.busy,show fG (some true) true=0 from rfl] at HB;have HA:=hid hA;have HH:=hid h;have HS:=hid hs;unfold au at *;clear h hs hA hX;go_enter Tryz.func47,Tryz.ntmps47;go_wp2_with fail;refine HB.out.mono ?_;rintro e w1 ⟨rfl,hb1⟩;have HB1:=hid (HA.out.trans (hb1.mono HA.out.size));have HP1:=hid (HH.out.below HB1.out);have hC:=ai HP1.out.blk;have hlt:=hC.lt;have c16:=hC.c16;have c19:=hC.c19;have z19:=hC.fz 19;rw [HS.out.work] at c16;clear hb1 hC;by_cases hn:n<0
 ·have HE:=hid (show kB W.pages n=21∧nR W n=W from by
   have h1:kB W.pages n=21:=by unfold kB;rw [if_pos (.inl hn)]
   exact ⟨h1,by unfold nR;rw [h1,if_neg (by decide)]⟩)
  have hn2:decide (n<0)=true:=decide_eq_true hn;go_wp2_with fail;go_ret;exact ⟨by rw [HE.out.1];rfl,by rw [HE.out.2];exact ⟨_,HS.out,(PTo.refl HH.out).post HB1.out⟩⟩
 ·have hn1:(0:Int)≤n:=by omega
  by_cases hg:(W.pages:Int)≤n
  ·have HE:=hid (show kB W.pages n=21∧nR W n=W from by
    have h1:kB W.pages n=21:=by unfold kB;rw [if_pos (.inr hg)]
    exact ⟨h1,by unfold nR;rw [h1,if_neg (by decide)]⟩)
   go_wp2_with fail;go_ret;exact ⟨by rw [HE.out.1];rfl,by rw [HE.out.2];exact ⟨_,HS.out,(PTo.refl HH.out).post HB1.out⟩⟩
  ·have hl:n<(W.pages:Int):=by omega
   have HE:=hid (show kB W.pages n=0∧nR W n={ W with root:=n.toNat } from by
    have h1:kB W.pages n=0:=by unfold kB;rw [if_neg (by omega)]
    exact ⟨h1,by unfold nR;rw [h1,if_pos rfl]⟩)
   obtain ⟨m,rfl⟩:∃ m:Nat,n=m:=⟨n.toNat,by omega⟩
   have hto:PTo w1 L { P with work:={ P.work with root:=m } } (w1.setCell ⟨L.gp,19,none⟩ (.int .i64 m)):=
    HP1.out.cell 19 (.int .i64 m) (ae HP1.out.blk 19 (.int .i64 m)) rfl rfl rfl rfl rfl ⟨HP1.out.ok.s1,HP1.out.ok.s2,HP1.out.ok.base,HP1.out.ok.hp,HP1.out.ok.wp,HP1.out.ok.nos⟩
   obtain ⟨L2,g2,p2,f2,k2⟩:=hto;have HDN:=hid (cF _ p2);rw [g2] at HDN;have HT:=hid (And.intro g2 (And.intro f2 k2));unfold au at HDN;clear g2 p2 f2 k2;go_wp2_with fail;refine HDN.out.mono ?_;rintro e w3 ⟨rfl,hr⟩;have HR:=hid (show StTo w L B (nR W m) w3 from by
    rw [HE.out.2];refine ⟨_,?_,PTo.pre (PTo.and HT.out.1 HT.out.2.1 HT.out.2.2 hr) HB1.out⟩;have hv:=(HS.out.vw.workd { P.work with root:=m }).wrote true;refine ⟨hv,HS.out.busy,?_,HS.out.w.p1,HS.out.w.p2,HS.out.w.t,HS.out.w.s,HS.out.w.st⟩;show ({ P.work with root:=m }:He)={ W with root:=(m:Int).toNat };rw [HS.out.work,Int.toNat_natCast])
   clear hr;go_wp2_with fail;go_ret;exact ⟨by rw [HE.out.1];rfl,HR.out⟩
def uF (W:He) (B:Int→By) (W':He) (B':Int→By):Prop:=((am (Hd.of W) B).e≠0∧W'=W∧B'=B)∨((am (Hd.of W) B).e=0∧(am (Hd.of W) B).h=Hd.of W'∧B'=gY (am (Hd.of W) B).B (am (Hd.of W) B).n cy)
theorem pP (w:World) {L:PgL} {P:Pgr} {B:Int→By} {W:He} (h:PgIs w L P) (hs:St P B W):
  Calls Tryz.prog 37 #[au L.gp] w fun e w'=>e=.returned (.tuple #[.int .i64 (am (Hd.of W) B).n,.int .i64 (am (Hd.of W) B).e])∧∃ W' B',uF W B W' B'∧StTo w L B' W' w':=by
 have HTK:=hid (fun (w1:World) (hp:PgIs w1 L P)=>nC (Hd.of W) w1 (In.refl hp hs.vw) hs.vw.len hs.w.ok (fun hne=>by
  have h1:=hs.w.st (by simp only [Hd.of] at hne;omega);have h2:=hs.w.t;simp only [Hd.of];omega))
 have htw:=pp hs.w B;unfold uF;rcases htw with ⟨he,hB,hn,hh⟩ | ⟨he,H,n,⟨hh,hn,ho,h1,hN,hroot⟩⟩
 ·generalize am (Hd.of W) B=r at *;rw [hn,hh,hB] at HTK;rw [hn];unfold kC bT au Hd.val Hd.cells Hd.zero at HTK;simp only [Hd.of] at HTK;have HE:=hid he;generalize r.e=ec at *;have hec:(ec == 0)=false:=by simpa using he
  clear he hB hn hh;have hA:Below w.heap.size w (w.alloc (.cells #[.bool true] 4)):=(Below.refl _ w).alloc (Nat.le_refl _) _;have hX:(w.alloc (.cells #[.bool true] 4)).heap[w.heap.size]?=some (.cells #[.bool true] 4 (0,0)):=ah rfl;have HB:=hid (aN true w.heap.size _ (h.below hA) hs.vw.up (aa hX 0) (af hX));rw [hs.busy,show fG (some true) true=0 from rfl] at HB;have HA:=hid hA;have HH:=hid h;have HS:=hid hs;unfold au at *;clear h hs hA hX;go_enter Tryz.func37,Tryz.ntmps37;go_wp2_with fail;refine HB.out.mono ?_;rintro e w1 ⟨rfl,hb1⟩;have HB1:=hid (HA.out.trans (hb1.mono HA.out.size));have HP1:=hid (HH.out.below HB1.out);have hC:=ai HP1.out.blk;have hlt:=hC.lt;have c15:=hC.c15;have c16:=hC.c16;have c17:=hC.c17;have c18:=hC.c18;have c19:=hC.c19;have c20:=hC.c20;rw [HS.out.work] at c15 c16 c17 c18 c19 c20;clear hb1 hC;go_wp2_with fail;refine (HTK.out w1 HP1.out).mono ?_;rintro e w2 ⟨rfl,⟨L2,P2,hx⟩,-⟩;have HR:=hid (show StTo w L B W (w2.alloc gg) from ⟨P2,HS.out.same hx.same hx.vw,(hx.pto.pre HB1.out).post ((Below.refl _ w2).alloc (Nat.le_refl _) gg)⟩);unfold gg at HR;clear hx;go_wp2_with fail;go_ret2;exact ⟨rfl,W,B,.inl ⟨HE.out,rfl,rfl⟩,HR.out⟩
 ·generalize am (Hd.of W) B=r at *;rw [hn,hh,he] at HTK;rw [hn,he];unfold kC bT au Hd.val Hd.cells at HTK;simp only [Hd.of] at HTK;generalize hrB:r.B=B1 at *;have HO:=hid (And.intro ho (And.intro h1 (And.intro hN hroot)));have HHH:=hid hh;clear he hh hn ho h1 hN hroot hrB;have hA:Below w.heap.size w (w.alloc (.cells #[.bool true] 4)):=(Below.refl _ w).alloc (Nat.le_refl _) _;have hX:(w.alloc (.cells #[.bool true] 4)).heap[w.heap.size]?=some (.cells #[.bool true] 4 (0,0)):=ah rfl;have HB:=hid (aN true w.heap.size _ (h.below hA) hs.vw.up (aa hX 0) (af hX));rw [hs.busy,show fG (some true) true=0 from rfl] at HB;have HA:=hid hA;have HH:=hid h;have HS:=hid hs;unfold au at *;clear h hs hA hX;go_enter Tryz.func37,Tryz.ntmps37;go_wp2_with fail;refine HB.out.mono ?_;rintro e w1 ⟨rfl,hb1⟩;have HB1:=hid (HA.out.trans (hb1.mono HA.out.size));have HP1:=hid (HH.out.below HB1.out);have hC:=ai HP1.out.blk;have hlt:=hC.lt;have c15:=hC.c15;have c16:=hC.c16;have c17:=hC.c17;have c18:=hC.c18;have c19:=hC.c19;have c20:=hC.c20;rw [HS.out.work] at c15 c16 c17 c18 c19 c20;clear hb1 hC;go_wp2_with fail;refine (HTK.out w1 HP1.out).mono ?_;rintro e w2 ⟨rfl,⟨L2,P2,hx⟩,-⟩;have HI2:=hid hx;have hX3:(w2.alloc (cX H)).heap[w2.heap.size]?=some (cX H):=ah rfl;have hA3:Below w2.heap.size w2 (w2.alloc (cX H)):=(Below.refl _ w2).alloc (Nat.le_refl _) _;have HX3:=hid hX3;have HA3:=hid hA3;have HP3:=hid (hx.is.below hA3);clear hx hX3 hA3;go_upto_region 7 with fail
  have hw3:∃ w3,w2.alloc (cX H)=w3:=⟨_,rfl⟩;obtain ⟨w3,hw3⟩:=hw3;change Code.wp _ _ _ _ (w2.alloc (cX H));rw [hw3] at HX3 HA3 HP3 ⊢;clear hw3;obtain ⟨x0,x1,x2,x3,x4,x5,xl⟩:=ct HX3.out;have hC:=ai HP3.out.blk;have hgp:=HI2.out.gp;have c15:=hC.c15;have c16:=hC.c16;have c17:=hC.c17;have c18:=hC.c18;have c19:=hC.c19;have c20:=hC.c20;have z15:=hC.fz 15;have z16:=hC.fz 16;have z17:=hC.fz 17;have z18:=hC.fz 18;have z19:=hC.fz 19;have z20:=hC.fz 20;have hlt:=hC.lt;have hW:PgIs ((((((w3.setCell ⟨L2.gp,15,none⟩ (.int .i64 H.mode)).setCell ⟨L2.gp,16,none⟩ (.int .i64 H.pages)).setCell ⟨L2.gp,17,none⟩ (.int .i64 H.trunk)).setCell ⟨L2.gp,18,none⟩ (.int .i64 H.spare)).setCell ⟨L2.gp,19,none⟩ (.int .i64 H.root)).setCell ⟨L2.gp,20,none⟩ (.int .u64 H.change)) L2 { P2 with work:=H }∧Ch (fun k=>k=L2.gp) w3 ((((((w3.setCell ⟨L2.gp,15,none⟩ (.int .i64 H.mode)).setCell ⟨L2.gp,16,none⟩ (.int .i64 H.pages)).setCell ⟨L2.gp,17,none⟩ (.int .i64 H.trunk)).setCell ⟨L2.gp,18,none⟩ (.int .i64 H.spare)).setCell ⟨L2.gp,19,none⟩ (.int .i64 H.root)).setCell ⟨L2.gp,20,none⟩ (.int .u64 H.change)):=by have hc:=((((((Ch.refl (fun k=>k=L2.gp) w3).setCell (p:=⟨L2.gp,15,none⟩) rfl (.int .i64 H.mode)).setCell (p:=⟨L2.gp,16,none⟩) rfl (.int .i64 H.pages)).setCell (p:=⟨L2.gp,17,none⟩) rfl (.int .i64 H.trunk)).setCell (p:=⟨L2.gp,18,none⟩) rfl (.int .i64 H.spare)).setCell (p:=⟨L2.gp,19,none⟩) rfl (.int .i64 H.root)).setCell (p:=⟨L2.gp,20,none⟩) rfl (.int .u64 H.change);exact ⟨HP3.out.setBlk hc (dH HP3.out.blk H) rfl rfl rfl rfl rfl ⟨HP3.out.ok.s1,HP3.out.ok.s2,HP3.out.ok.base,HP3.out.ok.hp,HO.out.1.p2,HP3.out.ok.nos⟩,hc⟩
  rw [hgp] at hW c15 c16 c17 c18 c19 c20 z15 z16 z17 z18 z19 z20 hlt;have HWW:=hid hW;clear hW hC hgp;go_upto_region 8 with fail
  generalize (((((w3.setCell ⟨L.gp,15,none⟩ (.int .i64 H.mode)).setCell ⟨L.gp,16,none⟩ (.int .i64 H.pages)).setCell ⟨L.gp,17,none⟩ (.int .i64 H.trunk)).setCell ⟨L.gp,18,none⟩ (.int .i64 H.spare)).setCell ⟨L.gp,19,none⟩ (.int .i64 H.root)).setCell ⟨L.gp,20,none⟩ (.int .u64 H.change)=w4 at *;clear x0 x1 x2 x3 x4 x5 xl c15 c16 c17 c18 c19 c20 z15 z16 z17 z18 z19 z20 hlt;go_wp2_with fail;refine (io w4).mono ?_;rintro e w5 ⟨rfl,hb5⟩;have HB5:=hid hb5;have hv3:=HI2.out.vw.workd H;have ho:=gQ (s:=cy) (dt:=true) hv3 (n:=n) (N':=H.pages) HO.out.2.1 (by have:=HO.out.2.2.1;omega) (by have:=HO.out.2.2.1;omega) HO.out.1.p2 List.length_replicate (.inl rfl);have HF:=hid (cV n cy w5 (HWW.out.1.below hb5) (by rw [hv3.base];exact Nat.zero_le _) hv3.saves (by have:=HO.out.2.2.1;have:=HO.out.1.p2;omega) ho.1 ho.2.1);have HOO:=hid ho.2.2;rw [HI2.out.gp] at HF;unfold au at HF;clear hb5 hv3 ho;go_wp2_with fail;refine HF.out.mono ?_;rintro e w6 ⟨rfl,L6,g6,p6,f6,k6⟩;have HDN:=hid (cF w6 p6);have HT:=hid (And.intro g6 (And.intro f6 k6));rw [g6,HI2.out.gp] at HDN;unfold au at HDN;clear g6 p6 f6 k6;go_wp2_with fail;refine HDN.out.mono ?_;rintro e w7 ⟨rfl,hr⟩;have HR:=hid (show StTo w L (gY B1 n cy) H w7 from by
   refine ⟨{ ({ P2 with work:=H }:Pgr).hold n cy true with wrote:=true },?_,PTo.pre ?_ HB1.out⟩
   rotate_left
   ·refine PTo.and HI2.out.gp HI2.out.F HI2.out.ch (PTo.pre ?_ HA3.out);refine PTo.and rfl (fun _ hk=>.inl hk) (HWW.out.2.mono fun k _ e=>.inl (e.trans HI2.out.gp.symm)) (PTo.pre ?_ HB5.out);exact PTo.and HT.out.1 HT.out.2.1 HT.out.2.2 hr
   ·have h1:=HOO.out.1;have h2:=HOO.out.2;have hbz:P2.busy=true:=by rw [HI2.out.same];exact HS.out.busy
    exact ⟨h1.wrote true,by rw [h2];exact hbz,by rw [h2],HO.out.1⟩)
  clear hr;go_wp2_with fail;go_ret2;exact ⟨rfl,H,gY B1 n cy,.inr ⟨(by first | rfl | trivial),HHH.out,rfl⟩,HR.out⟩
def mA (W:He) (B:Int→By) (n:Int):Int:=if n<1∨(W.pages:Int)≤n then 21 else (aB (Hd.of W) B n).e
def tP (W:He) (B:Int→By) (n:Int) (W':He) (B':Int→By):Prop:=(mA W B n≠0∧W'=W∧B'=B)∨(mA W B n=0∧(aB (Hd.of W) B n).h=Hd.of W'∧B'=(aB (Hd.of W) B n).B)
theorem ob (n:Int) (w:World) {L:PgL} {P:Pgr} {B:Int→By} {W:He} (h:PgIs w L P) (hs:St P B W):
  Calls Tryz.prog 46 #[au L.gp,.int .i64 n] w fun e w'=>e=.returned (.int .i64 (mA W B n))∧∃ W' B',tP W B n W' B'∧StTo w L B' W' w':=by
 by_cases hr:n<1∨(W.pages:Int)≤n
 ·have hE:mA W B n=21:=by unfold mA;rw [if_pos hr]
  unfold tP;rw [hE];have hA:Below w.heap.size w (w.alloc (.cells #[.bool true] 4)):=(Below.refl _ w).alloc (Nat.le_refl _) _;have hX:(w.alloc (.cells #[.bool true] 4)).heap[w.heap.size]?=some (.cells #[.bool true] 4 (0,0)):=ah rfl;have HB:=hid (aN true w.heap.size _ (h.below hA) hs.vw.up (aa hX 0) (af hX));rw [hs.busy,show fG (some true) true=0 from rfl] at HB;have HA:=hid hA;have HH:=hid h;have HS:=hid hs;unfold au at *;clear h hs hA hX;go_enter Tryz.func46,Tryz.ntmps46;go_wp2_with fail;refine HB.out.mono ?_;rintro e w1 ⟨rfl,hb1⟩;have HB1:=hid (HA.out.trans (hb1.mono HA.out.size));have HP1:=hid (HH.out.below HB1.out);have hC:=ai HP1.out.blk;have hlt:=hC.lt;have c15:=hC.c15;have c16:=hC.c16;have c17:=hC.c17;have c18:=hC.c18;have c19:=hC.c19;have c20:=hC.c20;rw [HS.out.work] at c15 c16 c17 c18 c19 c20;clear hb1 hC;have HT:=hid (show StTo w L B W w1 from ⟨_,HS.out,(PTo.refl HH.out).post HB1.out⟩);rcases hr with hn | hg
  ·have hn2:decide (n<1)=true:=decide_eq_true hn;go_wp2_with fail;go_ret;exact ⟨rfl,W,B,.inl ⟨by decide,rfl,rfl⟩,HT.out⟩
  ·by_cases hn:n<1
   ·have hn2:decide (n<1)=true:=decide_eq_true hn;go_wp2_with fail;go_ret;exact ⟨rfl,W,B,.inl ⟨by decide,rfl,rfl⟩,HT.out⟩
   ·have hn1:(1:Int)≤n:=by omega
    go_wp2_with fail;go_ret;exact ⟨rfl,W,B,.inl ⟨by decide,rfl,rfl⟩,HT.out⟩
 ·have hE:mA W B n=(aB (Hd.of W) B n).e:=by unfold mA;rw [if_neg hr]
  have hn1:(1:Int)≤n:=by omega
  have hn2:n<(W.pages:Int):=by omega
  have HTK:=hid (fun (w1:World) (hp:PgIs w1 L P)=>ox (Hd.of W) n w1 (In.refl hp hs.vw) hs.vw.len hs.w.ok rfl (by have h2:=hs.w.t;simp only [Hd.of];omega));have htw:=uu hs.w B n;unfold tP;rw [hE];clear hr hE;rcases htw with ⟨he,hB,hh⟩ | ⟨he,H,⟨hh,ho,hN,hroot⟩⟩
  ·generalize aB (Hd.of W) B n=r at *;rw [hh,hB] at HTK;unfold kC bT au Hd.val Hd.cells Hd.zero at HTK;simp only [Hd.of] at HTK;have HE:=hid he;generalize r.e=ec at *;have hec:(ec == 0)=false:=by simpa using he
   have HDN:=hid (fun w=>mm ec he w L.gp);unfold au at HDN;clear he hB hh;have hA:Below w.heap.size w (w.alloc (.cells #[.bool true] 4)):=(Below.refl _ w).alloc (Nat.le_refl _) _;have hX:(w.alloc (.cells #[.bool true] 4)).heap[w.heap.size]?=some (.cells #[.bool true] 4 (0,0)):=ah rfl;have HB:=hid (aN true w.heap.size _ (h.below hA) hs.vw.up (aa hX 0) (af hX));rw [hs.busy,show fG (some true) true=0 from rfl] at HB;have HA:=hid hA;have HH:=hid h;have HS:=hid hs;unfold au at *;clear h hs hA hX;go_enter Tryz.func46,Tryz.ntmps46;go_wp2_with fail;refine HB.out.mono ?_;rintro e w1 ⟨rfl,hb1⟩;have HB1:=hid (HA.out.trans (hb1.mono HA.out.size));have HP1:=hid (HH.out.below HB1.out);have hC:=ai HP1.out.blk;have hlt:=hC.lt;have c15:=hC.c15;have c16:=hC.c16;have c17:=hC.c17;have c18:=hC.c18;have c19:=hC.c19;have c20:=hC.c20;rw [HS.out.work] at c15 c16 c17 c18 c19 c20;clear hb1 hC;go_wp2_with fail;refine (HTK.out w1 HP1.out).mono ?_;rintro e w2 ⟨rfl,⟨L2,P2,hx⟩,-⟩;have HR:=hid (show StTo w L B W (w2.alloc gg) from ⟨P2,HS.out.same hx.same hx.vw,(hx.pto.pre HB1.out).post ((Below.refl _ w2).alloc (Nat.le_refl _) gg)⟩);unfold gg at HR;clear hx;go_wp2_with fail;refine (HDN.out _).mono ?_;rintro e w3 ⟨rfl,rfl⟩;go_wp2_with fail;go_ret;exact ⟨rfl,W,B,.inl ⟨HE.out,rfl,rfl⟩,HR.out⟩
  ·generalize aB (Hd.of W) B n=r at *;rw [hh,he] at HTK;rw [he];unfold kC bT au Hd.val Hd.cells at HTK;simp only [Hd.of] at HTK;generalize hrB:r.B=B1 at *;have HO:=hid (And.intro ho (And.intro hN hroot));have HHH:=hid hh;clear he hh ho hN hroot hrB;have hA:Below w.heap.size w (w.alloc (.cells #[.bool true] 4)):=(Below.refl _ w).alloc (Nat.le_refl _) _;have hX:(w.alloc (.cells #[.bool true] 4)).heap[w.heap.size]?=some (.cells #[.bool true] 4 (0,0)):=ah rfl;have HB:=hid (aN true w.heap.size _ (h.below hA) hs.vw.up (aa hX 0) (af hX));rw [hs.busy,show fG (some true) true=0 from rfl] at HB;have HA:=hid hA;have HH:=hid h;have HS:=hid hs;unfold au at *;clear h hs hA hX;go_enter Tryz.func46,Tryz.ntmps46;go_wp2_with fail;refine HB.out.mono ?_;rintro e w1 ⟨rfl,hb1⟩;have HB1:=hid (HA.out.trans (hb1.mono HA.out.size));have HP1:=hid (HH.out.below HB1.out);have hC:=ai HP1.out.blk;have hlt:=hC.lt;have c15:=hC.c15;have c16:=hC.c16;have c17:=hC.c17;have c18:=hC.c18;have c19:=hC.c19;have c20:=hC.c20;rw [HS.out.work] at c15 c16 c17 c18 c19 c20;clear hb1 hC;go_wp2_with fail;refine (HTK.out w1 HP1.out).mono ?_;rintro e w2 ⟨rfl,⟨L2,P2,hx⟩,-⟩;have HI2:=hid hx;have hX3:(w2.alloc (cX H)).heap[w2.heap.size]?=some (cX H):=ah rfl;have hA3:Below w2.heap.size w2 (w2.alloc (cX H)):=(Below.refl _ w2).alloc (Nat.le_refl _) _;have HX3:=hid hX3;have HA3:=hid hA3;have HP3:=hid (hx.is.below hA3);clear hx hX3 hA3;go_upto_region 8 with fail
   have hw3:∃ w3,w2.alloc (cX H)=w3:=⟨_,rfl⟩;obtain ⟨w3,hw3⟩:=hw3;change Code.wp _ _ _ _ (w2.alloc (cX H));rw [hw3] at HX3 HA3 HP3 ⊢;clear hw3;obtain ⟨x0,x1,x2,x3,x4,x5,xl⟩:=ct HX3.out;have hC:=ai HP3.out.blk;have hgp:=HI2.out.gp;have c15:=hC.c15;have c16:=hC.c16;have c17:=hC.c17;have c18:=hC.c18;have c19:=hC.c19;have c20:=hC.c20;have z15:=hC.fz 15;have z16:=hC.fz 16;have z17:=hC.fz 17;have z18:=hC.fz 18;have z19:=hC.fz 19;have z20:=hC.fz 20;have hlt:=hC.lt;have hW:PgIs ((((((w3.setCell ⟨L2.gp,15,none⟩ (.int .i64 H.mode)).setCell ⟨L2.gp,16,none⟩ (.int .i64 H.pages)).setCell ⟨L2.gp,17,none⟩ (.int .i64 H.trunk)).setCell ⟨L2.gp,18,none⟩ (.int .i64 H.spare)).setCell ⟨L2.gp,19,none⟩ (.int .i64 H.root)).setCell ⟨L2.gp,20,none⟩ (.int .u64 H.change)) L2 { P2 with work:=H }∧Ch (fun k=>k=L2.gp) w3 ((((((w3.setCell ⟨L2.gp,15,none⟩ (.int .i64 H.mode)).setCell ⟨L2.gp,16,none⟩ (.int .i64 H.pages)).setCell ⟨L2.gp,17,none⟩ (.int .i64 H.trunk)).setCell ⟨L2.gp,18,none⟩ (.int .i64 H.spare)).setCell ⟨L2.gp,19,none⟩ (.int .i64 H.root)).setCell ⟨L2.gp,20,none⟩ (.int .u64 H.change)):=by have hc:=((((((Ch.refl (fun k=>k=L2.gp) w3).setCell (p:=⟨L2.gp,15,none⟩) rfl (.int .i64 H.mode)).setCell (p:=⟨L2.gp,16,none⟩) rfl (.int .i64 H.pages)).setCell (p:=⟨L2.gp,17,none⟩) rfl (.int .i64 H.trunk)).setCell (p:=⟨L2.gp,18,none⟩) rfl (.int .i64 H.spare)).setCell (p:=⟨L2.gp,19,none⟩) rfl (.int .i64 H.root)).setCell (p:=⟨L2.gp,20,none⟩) rfl (.int .u64 H.change);exact ⟨HP3.out.setBlk hc (dH HP3.out.blk H) rfl rfl rfl rfl rfl ⟨HP3.out.ok.s1,HP3.out.ok.s2,HP3.out.ok.base,HP3.out.ok.hp,HO.out.1.p2,HP3.out.ok.nos⟩,hc⟩
   rw [hgp] at hW c15 c16 c17 c18 c19 c20 z15 z16 z17 z18 z19 z20 hlt;have HWW:=hid hW;clear hW hC hgp;go_upto_region 9 with fail
   generalize (((((w3.setCell ⟨L.gp,15,none⟩ (.int .i64 H.mode)).setCell ⟨L.gp,16,none⟩ (.int .i64 H.pages)).setCell ⟨L.gp,17,none⟩ (.int .i64 H.trunk)).setCell ⟨L.gp,18,none⟩ (.int .i64 H.spare)).setCell ⟨L.gp,19,none⟩ (.int .i64 H.root)).setCell ⟨L.gp,20,none⟩ (.int .u64 H.change)=w4 at *;clear x0 x1 x2 x3 x4 x5 xl c15 c16 c17 c18 c19 c20 z15 z16 z17 z18 z19 z20 hlt;have HDN:=hid (cF w4 HWW.out.1);rw [HI2.out.gp] at HDN;unfold au at HDN;go_wp2_with fail;refine HDN.out.mono ?_;rintro e w7 ⟨rfl,hr⟩;have HR:=hid (show StTo w L B1 H w7 from by
    refine ⟨{ P2 with work:=H,wrote:=true },?_,PTo.pre ?_ HB1.out⟩
    rotate_left
    ·refine PTo.and HI2.out.gp HI2.out.F HI2.out.ch (PTo.pre ?_ HA3.out);exact PTo.and rfl (fun _ hk=>.inl hk) (HWW.out.2.mono fun k _ e=>.inl (e.trans HI2.out.gp.symm)) hr
    ·have hbz:P2.busy=true:=by rw [HI2.out.same];exact HS.out.busy
     exact ⟨by rw [HO.out.2.1];exact (HI2.out.vw.workd H).wrote true,hbz,rfl,HO.out.1⟩)
   clear hr;go_wp2_with fail;go_ret;exact ⟨rfl,H,B1,.inr ⟨(by first | rfl | trivial),HHH.out,rfl⟩,HR.out⟩
structure Sf where
 lim:Int
 h:Hd
 B:Int→List UInt8
 left:Int
def jU (s:Sf) (gm:Nat):Obj:=.cells #[.int .i64 s.lim,.int .i64 s.h.mode,.int .i64 s.h.pages,.int .i64 s.h.trunk,.int .i64 s.h.spare,.int .i64 s.h.root,.int .u64 s.h.change,.map (some gm),.int .i64 s.left] 105 (0,0)
structure Sf.Ok (s:Sf):Prop where
 h:s.h.Ok
 l:∀ n,(s.B n).length=232
 l0:-1≤s.left
 l1:s.left≤1000000000
structure ShIs (w:World) (gs gm:Nat) (s:Sf):Prop where
 blk:w.heap[gs]?=some (jU s gm)
 book:BookIs w gm s.B
 ne:gm≠gs
 ok:s.Ok
theorem ee {w:World} {g gm:Nat} {s:Sf} (hh:w.heap[g]?=some (jU s gm)):w.cell? ⟨g,0,none⟩=some (.int .i64 s.lim)∧w.cell? ⟨g,1,none⟩=some (.int .i64 s.h.mode)∧w.cell? ⟨g,2,none⟩=some (.int .i64 s.h.pages)∧w.cell? ⟨g,3,none⟩=some (.int .i64 s.h.trunk)∧
  w.cell? ⟨g,4,none⟩=some (.int .i64 s.h.spare)∧w.cell? ⟨g,5,none⟩=some (.int .i64 s.h.root)∧w.cell? ⟨g,6,none⟩=some (.int .u64 s.h.change)∧w.cell? ⟨g,7,none⟩=some (.map (some gm))∧w.cell? ⟨g,8,none⟩=some (.int .i64 s.left)∧g<w.heap.size∧∀ i,w.frozen? ⟨g,i,none⟩=false:=
 ⟨aa hh 0,aa hh 1,aa hh 2,aa hh 3,aa hh 4,aa hh 5,aa hh 6,aa hh 7,aa hh 8,af hh,ab hh⟩
theorem ShIs.ch {S:Nat→Prop} {w w':World} {gs gm:Nat} {s:Sf} (h:ShIs w gs gm s) (hc:Ch S w w') (h1:¬ S gs) (h2:¬ S gm):ShIs w' gs gm s:=⟨hc.keep h.blk h1,h.book.ch hc h2,h.ne,h.ok⟩
def aW (s:Sf):Sf:=if 0<s.left then { s with left:=s.left - 1 } else s
def bu (s:Sf) (n:Int):Int:=if s.left=0 then 11 else if n<1∨s.h.pages≤n then 21 else 0
theorem eE {s:Sf} (h:s.Ok):(aW s).Ok:=by
 unfold aW
 split
 ·exact ⟨h.h,h.l,by have:=h.l0;simp only;omega,by have:=h.l1;simp only;omega⟩
 ·exact h
theorem mE {w:World} {gs gm:Nat} {s:Sf} (h:w.heap[gs]?=some (jU s gm)) (v:Int):(w.setCell ⟨gs,8,none⟩ (.int .i64 v)).heap[gs]?=some (jU { s with left:=v } gm):=ae h 8 _
theorem br (n:Int) (gs gm:Nat) (s:Sf) (w:World) (h:ShIs w gs gm s):
  Calls Tryz.prog 85 #[.pointer (some ⟨gs,0,none⟩),.int .i64 n] w fun e w'=>e=.returned (.int .i64 (bu s n))∧ShIs w' gs gm (aW s)∧Ch (fun k=>k=gs) w w':=by
 have H:=hid h;obtain ⟨a0,a1,a2,a3,a4,a5,a6,a7,a8,a9,a10⟩:=ee h.blk;have b8:=a10 8;have o1:=h.ok.l0;have o2:=h.ok.l1;have HOK:=hid (eE h.ok);clear h a10;go_enter Tryz.func85,Tryz.ntmps85;by_cases h0:s.left=0
 ·have HE:=hid (show bu s n=11∧aW s=s by simp [bu,aW,h0]);rw [h0] at a8;go_wp2_with fail;go_ret;exact ⟨by rw [HE.out.1];rfl,by rw [HE.out.2];exact H.out,Ch.refl _ _⟩
 ·have h01:(s.left == 0)=false:=by simpa using h0
  by_cases hp:0<s.left
  ·have HS:=hid (show aW s={ s with left:=s.left - 1 } by simp [aW,hp]);have HB:=hid (show ShIs (w.setCell ⟨gs,8,none⟩ (.int .i64 (s.left - 1))) gs gm (aW s) from ⟨by rw [HS.out];exact mE H.out.blk _,by rw [HS.out];exact H.out.book.ch ((Ch.refl (fun j=>j=gs) w).setCell (p:=⟨gs,8,none⟩) rfl _) H.out.ne,H.out.ne,HOK.out⟩);have HC:=hid ((Ch.refl (fun j=>j=gs) w).setCell (p:=⟨gs,8,none⟩) rfl (.int .i64 (s.left - 1)));by_cases hn:n<1
   ·have HE:=hid (show bu s n=21 by simp [bu,h0,hn]);go_wp2_with fail;go_ret;exact ⟨by rw [HE.out];rfl,HB.out,HC.out⟩
   ·have hn2:(1:Int)≤n:=by omega
    by_cases hg:s.h.pages≤n
    ·have HE:=hid (show bu s n=21 by simp [bu,h0,hg]);go_wp2_with fail;go_ret;exact ⟨by rw [HE.out];rfl,HB.out,HC.out⟩
    ·have HE:=hid (show bu s n=0 by simp [bu,h0,hn,hg]);have hg2:n<s.h.pages:=by omega
     go_wp2_with fail;go_ret;exact ⟨by rw [HE.out];rfl,HB.out,HC.out⟩
  ·have HS:=hid (show aW s=s by simp [aW,hp]);have hp2:s.left≤0:=by omega
   have HB:=hid (show ShIs w gs gm (aW s) by rw [HS.out];exact H.out);by_cases hn:n<1
   ·have HE:=hid (show bu s n=21 by simp [bu,h0,hn]);go_wp2_with fail;go_ret;exact ⟨by rw [HE.out];rfl,HB.out,Ch.refl _ _⟩
   ·have hn2:(1:Int)≤n:=by omega
    by_cases hg:s.h.pages≤n
    ·have HE:=hid (show bu s n=21 by simp [bu,h0,hg]);go_wp2_with fail;go_ret;exact ⟨by rw [HE.out];rfl,HB.out,Ch.refl _ _⟩
    ·have HE:=hid (show bu s n=0 by simp [bu,h0,hn,hg]);have hg2:n<s.h.pages:=by omega
     go_wp2_with fail;go_ret;exact ⟨by rw [HE.out];rfl,HB.out,Ch.refl _ _⟩
theorem nj {s:Sf} {n:Int} (h:bu s n=0):1≤n∧n<s.h.pages:=by
 unfold bu at h
 split at h
 ·cases h
 ·split at h
  ·cases h
  ·omega
theorem cU (s:Sf):(aW s).B=s.B:=by unfold aW;split <;> rfl
def kp (s:Sf) (n:Int):List UInt8:=if bu s n=0 then s.B n else []
theorem pB (n:Int) (gs gm:Nat) (s:Sf) (w:World) (h:ShIs w gs gm s):
  Calls Tryz.prog 29 #[.pointer (some ⟨gs,0,none⟩),.int .i64 n] w fun e w'=>e=.returned (.tuple #[.string (ak (kp s n)),.int .i64 (bu s n)])∧ShIs w' gs gm (aW s)∧Ch (fun k=>k=gs) w w':=by
 have HP:=hid h.ok.h.p2;go_enter Tryz.func29,Tryz.ntmps29;go_wp2_with fail;refine (br n gs gm s w h).mono ?_;rintro e w1 ⟨rfl,hs,hc⟩;have HS:=hid hs;have HC:=hid hc;obtain ⟨-,-,-,-,-,-,-,a7,-,a9,-⟩:=ee hs.blk;clear h hs hc;obtain ⟨be,hbe⟩:∃ be,be=bu s n:=⟨_,rfl⟩;rw [← hbe];have HBE:=hid hbe;clear hbe;by_cases h0:be=0
 ·obtain ⟨q0,q1⟩:=nj (HBE.out.symm.trans h0);have HV:=hid (show kp s n=s.B n by unfold kp;rw [← HBE.out,if_pos h0]);have HBK:=hid (show BookIs w1 gm s.B from cU s ▸ HS.out.book);subst h0;go_wp2_with fail;refine (gI n gm s.B w1 HBK.out (gL (by omega) (by have:=HP.out;omega))).mono ?_;rintro e w2 ⟨rfl,hb⟩;have HB2:=hid hb;clear hb;go_wp2_with fail;go_ret2;rw [HV.out];exact ⟨by rw [← HBE.out];rfl,HS.out.ch (Ch.of_below (S:=fun _=>False) HB2.out) id id,HC.out.trans (Ch.of_below HB2.out)⟩
 ·have hb1:(be == 0)=false:=by simpa using h0
  have HV:=hid (show kp s n=[] by unfold kp;rw [← HBE.out,if_neg h0]);go_wp2_with fail;go_ret2;rw [HV.out];exact ⟨by rw [← HBE.out];rfl,HS.out,HC.out⟩
def fW (s:Sf) (n:Int) (l:List UInt8):Int:=if bu s n=0 then if l.length=232 then 0 else 1 else bu s n
def putS (s:Sf) (n:Int) (l:List UInt8):Sf:=if bu s n=0∧l.length=232 then { aW s with B:=aY s.B n l } else aW s
theorem ci {B:Int→List UInt8} (h:∀ n,(B n).length=232) {n:Int} {l:List UInt8} (hl:l.length=232):∀ m,(aY B n l m).length=232:=fun m=>by
 unfold aY;split <;> simp [*]
theorem py (n:Int) (d:ByteArray) (gs gm:Nat) (s:Sf) (w:World) (h:ShIs w gs gm s):
  Calls Tryz.prog 30 #[.pointer (some ⟨gs,0,none⟩),.int .i64 n,.string d] w fun e w'=>e=.returned (.int .i64 (fW s n (bs d)))∧ShIs w' gs gm (putS s n (bs d))∧Ch (fun k=>k=gs∨k=gm) w w':=by
 have HP:=hid h.ok.h.p2;have HK:=hid h.ok;have hbs:=eS d;go_enter Tryz.func30,Tryz.ntmps30;go_wp2_with fail;refine (br n gs gm s w h).mono ?_;rintro e w1 ⟨rfl,hs,hc⟩;have HS:=hid hs;have HC:=hid (hc.mono (S':=fun k=>k=gs∨k=gm) (fun _ _ e=>.inl e));obtain ⟨-,-,-,-,-,-,-,a7,-,a9,-⟩:=ee hs.blk;clear h hs hc;obtain ⟨be,hbe⟩:∃ be,be=bu s n:=⟨_,rfl⟩;rw [← hbe];have HBE:=hid hbe;clear hbe;by_cases h0:be=0
 ·obtain ⟨q0,q1⟩:=nj (HBE.out.symm.trans h0);have HBK:=hid (show BookIs w1 gm s.B from cU s ▸ HS.out.book);by_cases hl:d.size=232
  ·have HV:=hid (show fW s n (bs d)=0∧putS s n (bs d)={ aW s with B:=aY s.B n (bs d) } by
    unfold fW putS;rw [← HBE.out,if_pos h0,if_pos (by rw [hbs];exact hl),if_pos ⟨h0,by rw [hbs];exact hl⟩];exact ⟨rfl,rfl⟩)
   have HKN:=hid (show Sf.Ok { aW s with B:=aY s.B n (bs d) } from ⟨(eE HK.out).h,ci HK.out.l (by rw [hbs];exact hl),(eE HK.out).l0,(eE HK.out).l1⟩);have hl2:(d.size:Int)=232:=by omega
   subst h0;go_wp2_with fail;refine (gH n d gm s.B w1 HBK.out (by omega) (by have:=HP.out;omega)).mono ?_;rintro e w2 ⟨rfl,hbk,hch⟩;have HB2:=hid hbk;have HC2:=hid hch;clear hbk hch;go_wp2_with fail;go_ret;refine ⟨by rw [HV.out.1];rfl,?_,HC.out.trans (HC2.out.mono (fun _ _ e=>.inr e))⟩;rw [HV.out.2];exact ⟨HC2.out.keep HS.out.blk (fun e=>HS.out.ne e.symm),HB2.out,HS.out.ne,HKN.out⟩
  ·have HV:=hid (show fW s n (bs d)=1∧putS s n (bs d)=aW s by
    unfold fW putS;rw [← HBE.out,if_pos h0,if_neg (by rw [hbs];exact hl),if_neg (fun h=>hl (by rw [← hbs];exact h.2))];exact ⟨rfl,rfl⟩)
   have hl2:((d.size:Int) == 232)=false:=by simp;omega
   subst h0;go_wp2_with fail;go_ret;exact ⟨by rw [HV.out.1];rfl,by rw [HV.out.2];exact HS.out,HC.out⟩
 ·have hb1:(be == 0)=false:=by simpa using h0
  have HV:=hid (show fW s n (bs d)=be∧putS s n (bs d)=aW s by
   unfold fW putS;rw [← HBE.out,if_neg h0,if_neg (fun h=>h0 h.1)];exact ⟨rfl,rfl⟩)
  go_wp2_with fail;go_ret;exact ⟨by rw [HV.out.1];rfl,by rw [HV.out.2];exact HS.out,HC.out⟩
end Go.Proofs.YtdmhbgpejppbkaaGreat
