/- pager: Root, Reset, New as they are seen from without. pager: Free as it is seen from without. -/
import Derived.Test.YtdmhbgpejppbkaaGreatXGbg
set_option maxRecDepth 100000
set_option maxHeartbeats 2000000
namespace Go.Proofs.YtdmhbgpejppbkaaGreat
open Go.Lib (hid)
open Go.RowKit Go.Maps
def uc (N:Nat) (n:Int):Int:=if n<0∨(N:Int)≤n then 21 else 0
def Ab.root (A:Ab) (n:Int):Ab:=if uc A.W.pages n=0 then { A with W:={ A.W with root:=n.toNat },wrote:=true } else A
theorem Rz.rooted {P:Pgr} {A:Ab} {t:Nat} (h:Rz P A t) (hb:A.busy=true) (ht:t≤74) (m:Nat):Rz { P with work:={ P.work with root:=m },wrote:=true } { A with W:={ A.W with root:=m },wrote:=true } (t+1):=by
 obtain ⟨N,B,u,sv,hN,hNt,hB⟩:=h.pg;have enow:A.now=A.W:=by unfold Ab.now;rw [hb];rfl
 have epgs:A.pgs=A.B:=by unfold Ab.pgs;rw [hb];rfl
 rw [enow] at hN hB;rw [epgs] at hB;have hw:=h.wok hb;have e:({ A with W:={ A.W with root:=m },wrote:=true }:Ab)={ A with W:={ A.W with root:=m },B:=A.B,wrote:=true,S:=A.S }:=rfl;rw [e];exact h.next hb (W':={ A.W with root:=m }) (Keep.setWork { P.work with root:=m } true) (by show aN P.lg≤_;omega) ht (by show ({ P.work with root:=m }:He)=_;rw [h.work hb]) rfl ⟨hw.p1,hw.p2,hw.t,hw.s,hw.st⟩ (by have:=h.wp hb;show A.W.pages≤_;omega) ⟨rfl,rfl⟩ (fun x=>by cases x) h.svk2 (u.setWork _ _) sv hN (by omega) hB
theorem uj (n:Int) (w:World) {L:PgL} {P:Pgr} {A:Ab} {t:Nat} (h:PgIs w L P) (hs:Rz P A t) (hba:A.busy=true) (ht:t≤74):
  Calls Tryz.prog 47 #[ai L.gp,.int .i64 n] w fun e w'=>e=.returned (.int .i64 (uc A.W.pages n))∧RTo w L (A.root n) (t+1) w':=by
 have hu:=hs.up;have hb:=hs.busy.trans hba;have HWK:=hid (hs.work hba);have HR:=hid (fun (w1:World) (hb1:Below w.heap.size w w1)=>(RTo.refl h hs ht).post hb1);have HZ:=hid (hs.rooted hba ht);clear hs hba ht;have hA:Below w.heap.size w (w.alloc (.cells #[.bool true] 4)):=(Below.refl _ w).alloc (Nat.le_refl _) _;have hX:(w.alloc (.cells #[.bool true] 4)).heap[w.heap.size]?=some (.cells #[.bool true] 4 (0,0)):=af rfl;have HB:=hid (ak true w.heap.size _ (h.below hA) hu (aa hX 0) (ab hX));rw [hb,show bV (some true) true=0 from rfl] at HB;have HA:=hid hA;have HH:=hid h;have HU:=hid (And.intro hu hb);unfold ai at *;clear h hu hb hA hX;go_enter Tryz.func47,Tryz.ntmps47;go_wp2_with fail;refine HB.out.mono ?_;rintro e w1 ⟨rfl,hb1⟩;have HB1:=hid (HA.out.trans (hb1.mono HA.out.size));have HP1:=hid (HH.out.below HB1.out);have hC:=ag HP1.out.blk;have hlt:=hC.lt;have c16:=hC.c16;have c19:=hC.c19;have z19:=hC.fz 19;rw [HWK.out] at c16;clear hb1 hC;by_cases hn:n<0
 ·have h1:uc A.W.pages n=21:=by unfold uc;rw [if_pos (.inl hn)]
  have HE:=hid (show uc A.W.pages n=21∧A.root n=A from ⟨h1,by unfold Ab.root;rw [h1,if_neg (by decide)]⟩);have hn2:decide (n<0)=true:=decide_eq_true hn;clear h1;go_wp2_with fail;go_ret;exact ⟨by rw [HE.out.1];rfl,by rw [HE.out.2];exact HR.out _ HB1.out⟩
 ·have hn1:(0:Int)≤n:=by omega
  by_cases hg:(A.W.pages:Int)≤n
  ·have h1:uc A.W.pages n=21:=by unfold uc;rw [if_pos (.inr hg)]
   have HE:=hid (show uc A.W.pages n=21∧A.root n=A from ⟨h1,by unfold Ab.root;rw [h1,if_neg (by decide)]⟩);clear h1;go_wp2_with fail;go_ret;exact ⟨by rw [HE.out.1];rfl,by rw [HE.out.2];exact HR.out _ HB1.out⟩
  ·have hl:n<(A.W.pages:Int):=by omega
   have h1:uc A.W.pages n=0:=by unfold uc;rw [if_neg (by omega)]
   have HE:=hid (show uc A.W.pages n=0∧A.root n={ A with W:={ A.W with root:=n.toNat },wrote:=true } from ⟨h1,by unfold Ab.root;rw [h1,if_pos rfl]⟩);clear h1;obtain ⟨m,rfl⟩:∃ m:Nat,n=m:=⟨n.toNat,by omega⟩
   have hto:PTo w1 L { P with work:={ P.work with root:=m } } (w1.setCell ⟨L.gp,19,none⟩ (.int .i64 m)):=
    HP1.out.cell 19 (.int .i64 m) (ae HP1.out.blk 19 (.int .i64 m)) rfl rfl rfl rfl rfl ⟨HP1.out.ok.s1,HP1.out.ok.s2,HP1.out.ok.base,HP1.out.ok.hp,HP1.out.ok.wp,HP1.out.ok.nos⟩
   obtain ⟨L2,g2,p2,f2,k2⟩:=hto;have HDN:=hid (dB _ p2);rw [g2] at HDN;have HT:=hid (And.intro g2 (And.intro f2 k2));unfold ai at HDN;clear g2 p2 f2 k2;go_wp2_with fail;refine HDN.out.mono ?_;rintro e w3 ⟨rfl,hr⟩;have HF:=hid (show RTo w L (A.root m) (t+1) w3 from by
    rw [HE.out.2,Int.toNat_natCast];exact ⟨_,HZ.out m,PTo.pre (PTo.and HT.out.1 HT.out.2.1 HT.out.2.2 hr) HB1.out⟩)
   clear hr;go_wp2_with fail;go_ret;exact ⟨by rw [HE.out.1];rfl,HF.out⟩
def Ab.reset (A:Ab):Ab:={ A with W:={ A.W with pages:=1,trunk:=0,spare:=0,root:=0 },wrote:=true }
theorem pY (w:World) {L:PgL} {P:Pgr} {A:Ab} {t:Nat} (h:PgIs w L P) (hs:Rz P A t) (hba:A.busy=true) (ht:t≤74):
  Calls Tryz.prog 48 #[ai L.gp] w fun e w'=>e=.returned (.int .i64 0)∧RTo w L A.reset (t+1) w':=by
 refine (rM w h hs.up (hs.busy.trans hba)).mono ?_;rintro e w1 ⟨rfl,hp⟩;refine ⟨rfl,_,?_,hp⟩;obtain ⟨N,B,u,sv,hN,hNt,hB⟩:=hs.pg;have enow:A.now=A.W:=by unfold Ab.now;rw [hba];rfl
 have epgs:A.pgs=A.B:=by unfold Ab.pgs;rw [hba];rfl
 rw [enow] at hN hB;rw [epgs] at hB;have hw:=hs.wok hba;have h1:=hw.p1
 exact hs.next hba (W':={ A.W with pages:=1,trunk:=0,spare:=0,root:=0 }) (B':=A.B) (Keep.setWork { P.work with pages:=1,trunk:=0,spare:=0,root:=0 } true) (by show aN P.lg≤_;omega) ht (by show ({ P.work with pages:=1,trunk:=0,spare:=0,root:=0 }:He)=_;rw [hs.work hba]) rfl ⟨Nat.le_refl _,by show 1≤4096;omega,by show 0<1;omega,by show 0≤4095;omega,fun x=>absurd rfl x⟩ (by show 1≤_;omega) ⟨rfl,rfl⟩ (fun x=>by cases x) hs.svk2 (u.setWork _ _) sv (by show 1≤N;omega) (by omega) fun m m1 m2=>by
  have m3:m<1:=m2;omega
def He.ofHd (h:Hd):He:=⟨h.mode.toNat,h.pages.toNat,h.trunk.toNat,h.spare.toNat,h.root.toNat,h.change.toNat⟩
theorem tg (H:He):He.ofHd (Hd.of H)=H:=by unfold He.ofHd Hd.of;simp only [Int.toNat_natCast]
def Ab.tk (A:Ab):Taken:=az (Hd.of A.W) A.B
def Ab.new (A:Ab):Ab:=if A.tk.e=0 then { A with W:=He.ofHd A.tk.h,B:=fU A.tk.B A.tk.n bK,wrote:=true } else A
theorem Rz.take {P:Pgr} {A:Ab} {t:Nat} (h:Rz P A t) (hba:A.busy=true) (ht:t≤74):∃ N B,Uz P A.C N B∧SvZ P.saves A.S B N∧A.W.pages≤N∧N≤t+1∧(∀ m:Nat,1≤m→m<A.W.pages→B m=A.B m)∧
  (az (Hd.of A.W) B).n=A.tk.n∧(az (Hd.of A.W) B).h=A.tk.h∧(az (Hd.of A.W) B).e=A.tk.e∧(∀ m:Nat,1≤m→m<A.W.pages→(az (Hd.of A.W) B).B m=A.tk.B m)∧(A.tk.e≠0→(az (Hd.of A.W) B).B=B)∧
  ∀ L w1,PgIs w1 L P→Calls Tryz.prog 88 #[.agg #[.int .i64 A.W.mode,.int .i64 A.W.pages,.int .i64 A.W.trunk,.int .i64 A.W.spare,.int .i64 A.W.root,.int .u64 A.W.change],nz L.gp] w1
    fun e w'=>e=.returned (.tuple #[.int .i64 A.tk.n,A.tk.h.val,.int .i64 A.tk.e])∧In w1 L P ⟨A.C,A.S,N⟩ (if A.tk.e=0 then 104 else 2) (az (Hd.of A.W) B).B (fun _=>False) w'∧Ch (fun _=>¬ False) w1 w':=by
 obtain ⟨N,B,u,sv,hN,hNt,hB⟩:=h.pg;have enow:A.now=A.W:=by unfold Ab.now;rw [hba];rfl
 have epgs:A.pgs=A.B:=by unfold Ab.pgs;rw [hba];rfl
 rw [enow] at hN hB;rw [epgs] at hB;have hw:=h.wok hba;have hst:=hw.st;have ht2:=hw.t;have hl:=h.lgn;obtain ⟨q1,q2,q3,q4⟩:=pB (h:=Hd.of A.W) (B:=B) (B':=A.B) fun hne=>hB A.W.trunk (hst (by simp only [Hd.of] at hne;omega)) ht2
 refine ⟨N,B,u,sv,hN,hNt,hB,q1,q2,q3,fun m m1 m2=>q4 m (hB m m1 m2),fun he=>?_,fun L w1 hp=>?_⟩
 ·rcases zt hw B with ⟨-,hB1,-⟩ | ⟨he0,-⟩
  ·exact hB1
  ·rw [q3] at he0;exact (he he0).elim
 ·have:=tQ (Hd.of A.W) w1 (In.refl (e:=⟨A.C,A.S,N⟩) hp u sv (h.busy.trans hba) (by omega)) (by omega) u.y.lenB hw.ok (fun hne=>by
   have h1:=hst (by simp only [Hd.of] at hne;omega);simp only [Hd.of];omega)
  rw [q1,q2,q3] at this;unfold bv at this;simp only [Nat.zero_add] at this;exact this
theorem vS (w:World) {L:PgL} {P:Pgr} {A:Ab} {t:Nat} (h:PgIs w L P) (hs:Rz P A t) (hba:A.busy=true) (ht:t≤74):
  Calls Tryz.prog 37 #[ai L.gp] w fun e w'=>e=.returned (.tuple #[.int .i64 A.tk.n,.int .i64 A.tk.e])∧RTo w L A.new (t+1) w':=by
 have hu:=hs.up;have hb:=hs.busy.trans hba;have HWK:=hid (hs.work hba);have HBA:=hid hba;have HS:=hid hs;have HTM:=hid ht;obtain ⟨N,B,u,sv,hN,hNt,hB,-,-,-,hTB,hTE,hTK⟩:=hs.take hba ht;have HPG:=hid (And.intro sv (And.intro hN (And.intro hNt hB)));have HTK:=hid hTK;have HTB:=hid hTB;have htw:=zt (hs.wok hba) A.B;rcases htw with ⟨he,-,hn,hh⟩ | ⟨he,H,n,⟨hh,hn,ho,h1,hnN,hroot⟩⟩
 ·have hE0:A.tk.e≠0:=he;have hB1:=hTE hE0;have HNW:=hid (show A.new=A by unfold Ab.new;rw [if_neg hE0]);rw [HNW.out];have hn2:A.tk.n=0:=hn;have hh2:A.tk.h=Hd.zero:=hh;rw [hn2,hh2,hB1] at HTK;rw [hn2];unfold nz cP ai Hd.val Hd.cells Hd.zero at HTK;have hec:(A.tk.e == 0)=false:=by simpa using hE0
  rw [if_neg hE0] at HTK;generalize A.tk.e=ec at *;clear he hB1 hn hh hn2 hh2 hs ht hba u sv hN hNt hB hTB hTE hTK hE0 HTB HNW;have hA:Below w.heap.size w (w.alloc (.cells #[.bool true] 4)):=(Below.refl _ w).alloc (Nat.le_refl _) _;have hX:(w.alloc (.cells #[.bool true] 4)).heap[w.heap.size]?=some (.cells #[.bool true] 4 (0,0)):=af rfl;have HB:=hid (ak true w.heap.size _ (h.below hA) hu (aa hX 0) (ab hX));rw [hb,show bV (some true) true=0 from rfl] at HB;have HA:=hid hA;have HH:=hid h;have HU:=hid (And.intro hu hb);unfold ai at *;clear h hu hb hA hX;go_enter Tryz.func37,Tryz.ntmps37;go_wp2_with fail;refine HB.out.mono ?_;rintro e w1 ⟨rfl,hb1⟩;have HB1:=hid (HA.out.trans (hb1.mono HA.out.size));have HP1:=hid (HH.out.below HB1.out);have hC:=ag HP1.out.blk;have hlt:=hC.lt;have c15:=hC.c15;have c16:=hC.c16;have c17:=hC.c17;have c18:=hC.c18;have c19:=hC.c19;have c20:=hC.c20;rw [HWK.out] at c15 c16 c17 c18 c19 c20;clear hb1 hC;go_wp2_with fail;refine (HTK.out L w1 HP1.out).mono ?_;rintro e w2 ⟨rfl,⟨L2,P2,hx⟩,-⟩;have HR:=hid (show RTo w L A (t+1) (w2.alloc jM) from by
   have hf:=hx.few
   refine ⟨P2,HS.out.calm hx.same (by omega) HTM.out (fun hb0=>absurd (HBA.out.symm.trans hb0) (by decide)) (fun _ _ k=>by
    obtain ⟨b4,b1,b2,b3⟩:=hx.qt (by omega) k.cl;have hmk:P2.mark=P.mark:=by rw [hx.same.1]
    exact ⟨b1.trans k.nt,b4,fun l hl=>by rw [hmk];exact k.lg l (b2.symm.trans hl),k.W,k.B,k.S,by rw [b3];exact k.im⟩) hx.u hx.sv ?_ HPG.out.2.2.1 ?_,(hx.pto.pre HB1.out).post ((Below.refl _ w2).alloc (Nat.le_refl _) jM)⟩
   ·unfold Ab.now;rw [HBA.out];exact HPG.out.2.1
   ·unfold Ab.now Ab.pgs;rw [HBA.out];exact HPG.out.2.2.2)
  unfold jM at HR;clear hx;go_wp2_with fail;go_ret2;exact ⟨rfl,HR.out⟩
 ·have hE0:A.tk.e=0:=he;have hn2:A.tk.n=(n:Int):=hn;have hh2:A.tk.h=Hd.of H:=hh;have HNW:=hid (show A.new={ A with W:=H,B:=fU A.tk.B n bK,wrote:=true } by unfold Ab.new;rw [if_pos hE0,hh2,hn2,tg]);rw [HNW.out];rw [hn2,hh2,hE0,if_pos rfl] at HTK;rw [hn2,hE0];generalize hrB:(az (Hd.of A.W) B).B=B1 at *;unfold nz cP ai Hd.val Hd.cells at HTK;simp only [Hd.of] at HTK;have hmc:H.change=A.W.change∧H.mode=A.W.mode:=by have:=pA (Hd.of A.W) A.B he;rw [hh] at this;simp only [Hd.of] at this;omega
  have HO:=hid (And.intro ho (And.intro h1 (And.intro hnN (And.intro hroot hmc))));clear he hh hn hn2 hh2 ho h1 hnN hroot hrB hs ht hba u sv hN hNt hB hTB hTE hTK hE0 HNW hmc;have hA:Below w.heap.size w (w.alloc (.cells #[.bool true] 4)):=(Below.refl _ w).alloc (Nat.le_refl _) _;have hX:(w.alloc (.cells #[.bool true] 4)).heap[w.heap.size]?=some (.cells #[.bool true] 4 (0,0)):=af rfl;have HB:=hid (ak true w.heap.size _ (h.below hA) hu (aa hX 0) (ab hX));rw [hb,show bV (some true) true=0 from rfl] at HB;have HA:=hid hA;have HH:=hid h;have HU:=hid (And.intro hu hb);unfold ai at *;clear h hu hb hA hX;go_enter Tryz.func37,Tryz.ntmps37;go_wp2_with fail;refine HB.out.mono ?_;rintro e w1 ⟨rfl,hb1⟩;have HB1:=hid (HA.out.trans (hb1.mono HA.out.size));have HP1:=hid (HH.out.below HB1.out);have hC:=ag HP1.out.blk;have hlt:=hC.lt;have c15:=hC.c15;have c16:=hC.c16;have c17:=hC.c17;have c18:=hC.c18;have c19:=hC.c19;have c20:=hC.c20;rw [HWK.out] at c15 c16 c17 c18 c19 c20;clear hb1 hC;go_wp2_with fail;refine (HTK.out L w1 HP1.out).mono ?_;rintro e w2 ⟨rfl,⟨L2,P2,hx⟩,-⟩;have HI2:=hid hx;have hX3:(w2.alloc (dP H)).heap[w2.heap.size]?=some (dP H):=af rfl;have hA3:Below w2.heap.size w2 (w2.alloc (dP H)):=(Below.refl _ w2).alloc (Nat.le_refl _) _;have HX3:=hid hX3;have HA3:=hid hA3;have HP3:=hid (hx.is.below hA3);clear hx hX3 hA3;go_upto_region 7 with fail
  have hw3:∃ w3,w2.alloc (dP H)=w3:=⟨_,rfl⟩;obtain ⟨w3,hw3⟩:=hw3;change Code.wp _ _ _ _ (w2.alloc (dP H));rw [hw3] at HX3 HA3 HP3 ⊢;clear hw3;obtain ⟨x0,x1,x2,x3,x4,x5,xl⟩:=du HX3.out;have hC:=ag HP3.out.blk;have hgp:=HI2.out.gp;have c15:=hC.c15;have c16:=hC.c16;have c17:=hC.c17;have c18:=hC.c18;have c19:=hC.c19;have c20:=hC.c20;have z15:=hC.fz 15;have z16:=hC.fz 16;have z17:=hC.fz 17;have z18:=hC.fz 18;have z19:=hC.fz 19;have z20:=hC.fz 20;have hlt:=hC.lt;have hW:PgIs ((((((w3.setCell ⟨L2.gp,15,none⟩ (.int .i64 H.mode)).setCell ⟨L2.gp,16,none⟩ (.int .i64 H.pages)).setCell ⟨L2.gp,17,none⟩ (.int .i64 H.trunk)).setCell ⟨L2.gp,18,none⟩ (.int .i64 H.spare)).setCell ⟨L2.gp,19,none⟩ (.int .i64 H.root)).setCell ⟨L2.gp,20,none⟩ (.int .u64 H.change)) L2 { P2 with work:=H }∧Ch (fun k=>k=L2.gp) w3 ((((((w3.setCell ⟨L2.gp,15,none⟩ (.int .i64 H.mode)).setCell ⟨L2.gp,16,none⟩ (.int .i64 H.pages)).setCell ⟨L2.gp,17,none⟩ (.int .i64 H.trunk)).setCell ⟨L2.gp,18,none⟩ (.int .i64 H.spare)).setCell ⟨L2.gp,19,none⟩ (.int .i64 H.root)).setCell ⟨L2.gp,20,none⟩ (.int .u64 H.change)):=by have hc:=((((((Ch.refl (fun k=>k=L2.gp) w3).setCell (p:=⟨L2.gp,15,none⟩) rfl (.int .i64 H.mode)).setCell (p:=⟨L2.gp,16,none⟩) rfl (.int .i64 H.pages)).setCell (p:=⟨L2.gp,17,none⟩) rfl (.int .i64 H.trunk)).setCell (p:=⟨L2.gp,18,none⟩) rfl (.int .i64 H.spare)).setCell (p:=⟨L2.gp,19,none⟩) rfl (.int .i64 H.root)).setCell (p:=⟨L2.gp,20,none⟩) rfl (.int .u64 H.change);exact ⟨HP3.out.setBlk hc (ft HP3.out.blk H) rfl rfl rfl rfl rfl ⟨HP3.out.ok.s1,HP3.out.ok.s2,HP3.out.ok.base,HP3.out.ok.hp,HO.out.1.p2,HP3.out.ok.nos⟩,hc⟩
  rw [hgp] at hW c15 c16 c17 c18 c19 c20 z15 z16 z17 z18 z19 z20 hlt;have HWW:=hid hW;clear hW hC hgp;go_upto_region 8 with fail
  generalize (((((w3.setCell ⟨L.gp,15,none⟩ (.int .i64 H.mode)).setCell ⟨L.gp,16,none⟩ (.int .i64 H.pages)).setCell ⟨L.gp,17,none⟩ (.int .i64 H.trunk)).setCell ⟨L.gp,18,none⟩ (.int .i64 H.spare)).setCell ⟨L.gp,19,none⟩ (.int .i64 H.root)).setCell ⟨L.gp,20,none⟩ (.int .u64 H.change)=w4 at *;clear x0 x1 x2 x3 x4 x5 xl c15 c16 c17 c18 c19 c20 z15 z16 z17 z18 z19 z20 hlt;go_wp2_with fail;refine (kR w4).mono ?_;rintro e w5 ⟨rfl,hb5⟩;have HB5:=hid hb5;have hbz:P2.busy=true:=by rw [HI2.out.same.1];exact HS.out.busy.trans HBA.out
  obtain ⟨N',hN'⟩:∃ N',N'=if n<N then N else N+1:=⟨_,rfl⟩
  have hN1:(N'=N∨N'=N+1∧n=N)∧H.pages≤N'∧N'≤t+2:=by
   have a1:=HO.out.2.2.1;have a2:=HPG.out.2.1;have a3:=HPG.out.2.2.1
   split at hN' <;> omega
  obtain ⟨old,ho⟩:=mm (s:=bK) (N':=N') (HI2.out.u.setWork H P2.wrote) HI2.out.sv hbz (by have:=HI2.out.few;have:=HI2.out.lim.2;show aN P2.lg<_;omega) (n:=n) HO.out.2.1 (by have:=HO.out.2.2.1;have:=HPG.out.2.1;have:=HPG.out.2.2.1;have:=HTM.out;omega) hN1.1 (by have:=HTM.out;omega) List.length_replicate;have HF:=hid (gw n old bK w5 (HWW.out.1.below hb5) ho.can);have HOO:=hid ho;have HN1:=hid hN1;rw [HI2.out.gp] at HF;unfold ai at HF;clear hb5 ho hbz hN' hN1;go_wp2_with fail;refine HF.out.mono ?_;rintro e w6 ⟨rfl,L6,g6,p6,f6,k6⟩;have HDN:=hid (dB w6 p6);have HT:=hid (And.intro g6 (And.intro f6 k6));rw [g6,HI2.out.gp] at HDN;unfold ai at HDN;clear g6 p6 f6 k6;go_wp2_with fail;refine HDN.out.mono ?_;rintro e w7 ⟨rfl,hr⟩
  have HR:=hid (show RTo w L { A with W:=H,B:=fU A.tk.B n bK,wrote:=true } (t+1) w7 from by
   refine ⟨{ ({ P2 with work:=H }:Pgr).change n old bK with wrote:=true },?_,PTo.pre ?_ HB1.out⟩
   rotate_left
   ·refine PTo.and HI2.out.gp HI2.out.F HI2.out.ch (PTo.pre ?_ HA3.out);refine PTo.and rfl (fun _ hk=>.inl hk) (HWW.out.2.mono fun _ _ e=>.inl (e.trans HI2.out.gp.symm)) (PTo.pre ?_ HB5.out);exact PTo.and HT.out.1 HT.out.2.1 HT.out.2.2 hr
   ·have hk:Keep P { ({ P2 with work:=H }:Pgr).change n old bK with wrote:=true }:=(HI2.out.same.keep.trans (Keep.setWork H P2.wrote)).trans (HOO.out.same.keep.trans ⟨rfl,rfl,rfl,rfl,rfl,rfl,rfl,rfl,rfl,rfl,rfl⟩);have hw2:(({ P2 with work:=H }:Pgr).change n old bK).work=H:=by rw [HOO.out.same.1]
    have hf1:=HI2.out.few;have hf2:=HOO.out.lg;refine HS.out.next (S':=A.S) HBA.out hk (by show aN (({ P2 with work:=H }:Pgr).change n old bK).lg≤_;have hf3:aN (({ P2 with work:=H }:Pgr).change n old bK).lg≤aN P2.lg+2:=hf2;omega) HTM.out hw2 rfl HO.out.1 (by have:=HN1.out.2;omega) HO.out.2.2.2.2 (fun x=>by cases x) HS.out.svk2 (HOO.out.u.setWork (({ P2 with work:=H }:Pgr).change n old bK).work true) ?_ HN1.out.2.1 HN1.out.2.2 fun m m1 m2=>?_
    ·exact HOO.out.sv.more (by have:=HN1.out.1;omega)
    ·unfold fU
     split
     ·rfl
     ·rename_i hmn
      exact HTB.out m m1 (by have:=HO.out.2.2.1;omega))
  clear hr;go_wp2_with fail;go_ret2;exact ⟨rfl,HR.out⟩
def Ab.gv (A:Ab) (n:Int):Given:=aP (Hd.of A.W) A.B n
def qF (A:Ab) (n:Int):Int:=if n<1∨(A.W.pages:Int)≤n then 21 else (A.gv n).e
def Ab.free (A:Ab) (n:Int):Ab:=if qF A n=0 then { A with W:=He.ofHd (A.gv n).h,B:=(A.gv n).B,wrote:=true } else A
theorem Rz.give {P:Pgr} {A:Ab} {t:Nat} (h:Rz P A t) (hba:A.busy=true) (ht:t≤74) (n:Int):∃ N B,Uz P A.C N B∧SvZ P.saves A.S B N∧A.W.pages≤N∧N≤t+1∧(∀ m:Nat,1≤m→m<A.W.pages→B m=A.B m)∧
  (∀ m:Nat,1≤m→m<A.W.pages→(aP (Hd.of A.W) B n).B m=(A.gv n).B m)∧((A.gv n).e≠0→(aP (Hd.of A.W) B n).B=B)∧
  ∀ L w1,PgIs w1 L P→Calls Tryz.prog 90 #[.agg #[.int .i64 A.W.mode,.int .i64 A.W.pages,.int .i64 A.W.trunk,.int .i64 A.W.spare,.int .i64 A.W.root,.int .u64 A.W.change],nz L.gp,.int .i64 n] w1
    fun e w'=>e=.returned (.tuple #[(A.gv n).h.val,.int .i64 (A.gv n).e])∧In w1 L P ⟨A.C,A.S,N⟩ (if (A.gv n).e=0 then 104 else 2) (aP (Hd.of A.W) B n).B (fun _=>False) w'∧Ch (fun _=>¬ False) w1 w':=by
 obtain ⟨N,B,u,sv,hN,hNt,hB⟩:=h.pg;have enow:A.now=A.W:=by unfold Ab.now;rw [hba];rfl
 have epgs:A.pgs=A.B:=by unfold Ab.pgs;rw [hba];rfl
 rw [enow] at hN hB;rw [epgs] at hB;have hw:=h.wok hba;have ht2:=hw.t;have hl:=h.lgn;obtain ⟨q1,q2,q3⟩:=qC (h:=Hd.of A.W) (B:=B) (B':=A.B) (n:=n) fun hne=>hB A.W.trunk (by simp only [Hd.of] at hne;omega) ht2
 refine ⟨N,B,u,sv,hN,hNt,hB,fun m m1 m2=>q3 m (hB m m1 m2),fun he=>?_,fun L w1 hp=>?_⟩
 ·rcases zB hw B n with ⟨-,hB1,-⟩ | ⟨he0,-⟩
  ·exact hB1
  ·rw [q2] at he0;exact (he he0).elim
 ·have:=uL (Hd.of A.W) n w1 (In.refl (e:=⟨A.C,A.S,N⟩) hp u sv (h.busy.trans hba) (by omega)) (by omega) u.y.lenB hw.ok (by simp only [Hd.of];omega) (by simp only [Hd.of];omega);rw [q1,q2] at this;unfold bv at this;simp only [Nat.zero_add] at this;exact this
theorem us (n:Int) (w:World) {L:PgL} {P:Pgr} {A:Ab} {t:Nat} (h:PgIs w L P) (hs:Rz P A t) (hba:A.busy=true) (ht:t≤74):
  Calls Tryz.prog 46 #[ai L.gp,.int .i64 n] w fun e w'=>e=.returned (.int .i64 (qF A n))∧RTo w L (A.free n) (t+1) w':=by
 have hu:=hs.up;have hb:=hs.busy.trans hba;have HWK:=hid (hs.work hba);have HBA:=hid hba;have HS:=hid hs;have HTM:=hid ht;by_cases hr:n<1∨(A.W.pages:Int)≤n
 ·have hE:qF A n=21:=by unfold qF;rw [if_pos hr]
  have HNW:=hid (show A.free n=A by unfold Ab.free;rw [hE,if_neg (by decide)]);have HR:=hid (fun (w1:World) (hb1:Below w.heap.size w w1)=>(RTo.refl h hs ht).post hb1);rw [hE,HNW.out];clear hE hs ht hba HNW;have hA:Below w.heap.size w (w.alloc (.cells #[.bool true] 4)):=(Below.refl _ w).alloc (Nat.le_refl _) _;have hX:(w.alloc (.cells #[.bool true] 4)).heap[w.heap.size]?=some (.cells #[.bool true] 4 (0,0)):=af rfl;have HB:=hid (ak true w.heap.size _ (h.below hA) hu (aa hX 0) (ab hX));rw [hb,show bV (some true) true=0 from rfl] at HB;have HA:=hid hA;have HH:=hid h;have HU:=hid (And.intro hu hb);unfold ai at *;clear h hu hb hA hX;go_enter Tryz.func46,Tryz.ntmps46;go_wp2_with fail;refine HB.out.mono ?_;rintro e w1 ⟨rfl,hb1⟩;have HB1:=hid (HA.out.trans (hb1.mono HA.out.size));have HP1:=hid (HH.out.below HB1.out);have hC:=ag HP1.out.blk;have hlt:=hC.lt;have c15:=hC.c15;have c16:=hC.c16;have c17:=hC.c17;have c18:=hC.c18;have c19:=hC.c19;have c20:=hC.c20;rw [HWK.out] at c15 c16 c17 c18 c19 c20;clear hb1 hC;rcases hr with hn | hg
  ·have hn2:decide (n<1)=true:=decide_eq_true hn;go_wp2_with fail;go_ret;exact ⟨rfl,HR.out _ HB1.out⟩
  ·by_cases hn:n<1
   ·have hn2:decide (n<1)=true:=decide_eq_true hn;go_wp2_with fail;go_ret;exact ⟨rfl,HR.out _ HB1.out⟩
   ·have hn1:(1:Int)≤n:=by omega
    go_wp2_with fail;go_ret;exact ⟨rfl,HR.out _ HB1.out⟩
 ·have hE:qF A n=(A.gv n).e:=by unfold qF;rw [if_neg hr]
  have hn1:(1:Int)≤n:=by omega
  have hn2:n<(A.W.pages:Int):=by omega
  obtain ⟨N,B,u,sv,hN,hNt,hB,hTB,hTE,hTK⟩:=hs.give hba ht n;have HPG:=hid (And.intro sv (And.intro hN (And.intro hNt hB)));have HTK:=hid hTK;have HTB:=hid hTB;have htw:=zB (hs.wok hba) A.B n;rw [hE];rcases htw with ⟨he,-,hh⟩ | ⟨he,H,⟨hh,ho,hpp,hroot⟩⟩
  ·have hE0:(A.gv n).e≠0:=he;have hB1:=hTE hE0;have HNW:=hid (show A.free n=A by unfold Ab.free;rw [hE,if_neg hE0]);rw [HNW.out];have hh2:(A.gv n).h=Hd.zero:=hh;rw [hh2,hB1] at HTK;unfold nz cP ai Hd.val Hd.cells Hd.zero at HTK;have hec:((A.gv n).e == 0)=false:=by simpa using hE0
   rw [if_neg hE0] at HTK;have HDN:=hid (fun w=>rD (A.gv n).e hE0 w L.gp);unfold ai at HDN;generalize (A.gv n).e=ec at *;clear he hB1 hh hh2 hs ht hba u sv hN hNt hB hTB hTE hTK hE0 HTB HNW hr hE;have hA:Below w.heap.size w (w.alloc (.cells #[.bool true] 4)):=(Below.refl _ w).alloc (Nat.le_refl _) _;have hX:(w.alloc (.cells #[.bool true] 4)).heap[w.heap.size]?=some (.cells #[.bool true] 4 (0,0)):=af rfl;have HB:=hid (ak true w.heap.size _ (h.below hA) hu (aa hX 0) (ab hX));rw [hb,show bV (some true) true=0 from rfl] at HB;have HA:=hid hA;have HH:=hid h;have HU:=hid (And.intro hu hb);unfold ai at *;clear h hu hb hA hX;go_enter Tryz.func46,Tryz.ntmps46;go_wp2_with fail;refine HB.out.mono ?_;rintro e w1 ⟨rfl,hb1⟩;have HB1:=hid (HA.out.trans (hb1.mono HA.out.size));have HP1:=hid (HH.out.below HB1.out);have hC:=ag HP1.out.blk;have hlt:=hC.lt;have c15:=hC.c15;have c16:=hC.c16;have c17:=hC.c17;have c18:=hC.c18;have c19:=hC.c19;have c20:=hC.c20;rw [HWK.out] at c15 c16 c17 c18 c19 c20;clear hb1 hC;go_wp2_with fail;refine (HTK.out L w1 HP1.out).mono ?_;rintro e w2 ⟨rfl,⟨L2,P2,hx⟩,-⟩;have HR:=hid (show RTo w L A (t+1) (w2.alloc jM) from by
    have hf:=hx.few
    refine ⟨P2,HS.out.calm hx.same (by omega) HTM.out (fun hb0=>absurd (HBA.out.symm.trans hb0) (by decide)) (fun _ _ k=>by
     obtain ⟨b4,b1,b2,b3⟩:=hx.qt (by omega) k.cl;have hmk:P2.mark=P.mark:=by rw [hx.same.1]
     exact ⟨b1.trans k.nt,b4,fun l hl=>by rw [hmk];exact k.lg l (b2.symm.trans hl),k.W,k.B,k.S,by rw [b3];exact k.im⟩) hx.u hx.sv ?_ HPG.out.2.2.1 ?_,(hx.pto.pre HB1.out).post ((Below.refl _ w2).alloc (Nat.le_refl _) jM)⟩
    ·unfold Ab.now;rw [HBA.out];exact HPG.out.2.1
    ·unfold Ab.now Ab.pgs;rw [HBA.out];exact HPG.out.2.2.2)
   unfold jM at HR;clear hx;go_wp2_with fail;refine (HDN.out _).mono ?_;rintro e w3 ⟨rfl,rfl⟩;go_wp2_with fail;go_ret;exact ⟨rfl,HR.out⟩
  ·have hE0:(A.gv n).e=0:=he;have hh2:(A.gv n).h=Hd.of H:=hh;have HNW:=hid (show A.free n={ A with W:=H,B:=(A.gv n).B,wrote:=true } by unfold Ab.free;rw [hE,if_pos hE0,hh2,tg]);rw [HNW.out];rw [hh2,hE0,if_pos rfl] at HTK;rw [hE0];generalize hrB:(aP (Hd.of A.W) B n).B=B1 at *;unfold nz cP ai Hd.val Hd.cells at HTK;simp only [Hd.of] at HTK;have hmc:H.change=A.W.change∧H.mode=A.W.mode:=by have:=qB (Hd.of A.W) A.B n he;rw [hh] at this;simp only [Hd.of] at this;omega
   have HO:=hid (And.intro ho (And.intro hpp (And.intro hroot hmc)));clear he hh hh2 ho hpp hroot hrB hs ht hba u sv hN hNt hB hTB hTE hTK hE0 HNW hmc hr hE;have hA:Below w.heap.size w (w.alloc (.cells #[.bool true] 4)):=(Below.refl _ w).alloc (Nat.le_refl _) _;have hX:(w.alloc (.cells #[.bool true] 4)).heap[w.heap.size]?=some (.cells #[.bool true] 4 (0,0)):=af rfl;have HB:=hid (ak true w.heap.size _ (h.below hA) hu (aa hX 0) (ab hX));rw [hb,show bV (some true) true=0 from rfl] at HB;have HA:=hid hA;have HH:=hid h;have HU:=hid (And.intro hu hb);unfold ai at *;clear h hu hb hA hX;go_enter Tryz.func46,Tryz.ntmps46;go_wp2_with fail;refine HB.out.mono ?_;rintro e w1 ⟨rfl,hb1⟩;have HB1:=hid (HA.out.trans (hb1.mono HA.out.size));have HP1:=hid (HH.out.below HB1.out);have hC:=ag HP1.out.blk;have hlt:=hC.lt;have c15:=hC.c15;have c16:=hC.c16;have c17:=hC.c17;have c18:=hC.c18;have c19:=hC.c19;have c20:=hC.c20;rw [HWK.out] at c15 c16 c17 c18 c19 c20;clear hb1 hC;go_wp2_with fail;refine (HTK.out L w1 HP1.out).mono ?_;rintro e w2 ⟨rfl,⟨L2,P2,hx⟩,-⟩;have HI2:=hid hx;have hX3:(w2.alloc (dP H)).heap[w2.heap.size]?=some (dP H):=af rfl;have hA3:Below w2.heap.size w2 (w2.alloc (dP H)):=(Below.refl _ w2).alloc (Nat.le_refl _) _;have HX3:=hid hX3;have HA3:=hid hA3;have HP3:=hid (hx.is.below hA3);clear hx hX3 hA3;go_upto_region 8 with fail
   have hw3:∃ w3,w2.alloc (dP H)=w3:=⟨_,rfl⟩;obtain ⟨w3,hw3⟩:=hw3;change Code.wp _ _ _ _ (w2.alloc (dP H));rw [hw3] at HX3 HA3 HP3 ⊢;clear hw3;obtain ⟨x0,x1,x2,x3,x4,x5,xl⟩:=du HX3.out;have hC:=ag HP3.out.blk;have hgp:=HI2.out.gp;have c15:=hC.c15;have c16:=hC.c16;have c17:=hC.c17;have c18:=hC.c18;have c19:=hC.c19;have c20:=hC.c20;have z15:=hC.fz 15;have z16:=hC.fz 16;have z17:=hC.fz 17;have z18:=hC.fz 18;have z19:=hC.fz 19;have z20:=hC.fz 20;have hlt:=hC.lt;have hW:PgIs ((((((w3.setCell ⟨L2.gp,15,none⟩ (.int .i64 H.mode)).setCell ⟨L2.gp,16,none⟩ (.int .i64 H.pages)).setCell ⟨L2.gp,17,none⟩ (.int .i64 H.trunk)).setCell ⟨L2.gp,18,none⟩ (.int .i64 H.spare)).setCell ⟨L2.gp,19,none⟩ (.int .i64 H.root)).setCell ⟨L2.gp,20,none⟩ (.int .u64 H.change)) L2 { P2 with work:=H }∧Ch (fun k=>k=L2.gp) w3 ((((((w3.setCell ⟨L2.gp,15,none⟩ (.int .i64 H.mode)).setCell ⟨L2.gp,16,none⟩ (.int .i64 H.pages)).setCell ⟨L2.gp,17,none⟩ (.int .i64 H.trunk)).setCell ⟨L2.gp,18,none⟩ (.int .i64 H.spare)).setCell ⟨L2.gp,19,none⟩ (.int .i64 H.root)).setCell ⟨L2.gp,20,none⟩ (.int .u64 H.change)):=by have hc:=((((((Ch.refl (fun k=>k=L2.gp) w3).setCell (p:=⟨L2.gp,15,none⟩) rfl (.int .i64 H.mode)).setCell (p:=⟨L2.gp,16,none⟩) rfl (.int .i64 H.pages)).setCell (p:=⟨L2.gp,17,none⟩) rfl (.int .i64 H.trunk)).setCell (p:=⟨L2.gp,18,none⟩) rfl (.int .i64 H.spare)).setCell (p:=⟨L2.gp,19,none⟩) rfl (.int .i64 H.root)).setCell (p:=⟨L2.gp,20,none⟩) rfl (.int .u64 H.change);exact ⟨HP3.out.setBlk hc (ft HP3.out.blk H) rfl rfl rfl rfl rfl ⟨HP3.out.ok.s1,HP3.out.ok.s2,HP3.out.ok.base,HP3.out.ok.hp,HO.out.1.p2,HP3.out.ok.nos⟩,hc⟩
   rw [hgp] at hW c15 c16 c17 c18 c19 c20 z15 z16 z17 z18 z19 z20 hlt;have HWW:=hid hW;clear hW hC hgp;go_upto_region 9 with fail
   generalize (((((w3.setCell ⟨L.gp,15,none⟩ (.int .i64 H.mode)).setCell ⟨L.gp,16,none⟩ (.int .i64 H.pages)).setCell ⟨L.gp,17,none⟩ (.int .i64 H.trunk)).setCell ⟨L.gp,18,none⟩ (.int .i64 H.spare)).setCell ⟨L.gp,19,none⟩ (.int .i64 H.root)).setCell ⟨L.gp,20,none⟩ (.int .u64 H.change)=w4 at *;clear x0 x1 x2 x3 x4 x5 xl c15 c16 c17 c18 c19 c20 z15 z16 z17 z18 z19 z20 hlt;have HDN:=hid (dB w4 HWW.out.1);rw [HI2.out.gp] at HDN;unfold ai at HDN;go_wp2_with fail;refine HDN.out.mono ?_;rintro e w7 ⟨rfl,hr⟩
   have HR:=hid (show RTo w L { A with W:=H,B:=(A.gv n).B,wrote:=true } (t+1) w7 from by
    refine ⟨{ P2 with work:=H,wrote:=true },?_,PTo.pre ?_ HB1.out⟩
    rotate_left
    ·refine PTo.and HI2.out.gp HI2.out.F HI2.out.ch (PTo.pre ?_ HA3.out);exact PTo.and rfl (fun _ hk=>.inl hk) (HWW.out.2.mono fun k _ e=>.inl (e.trans HI2.out.gp.symm)) hr
    ·have hf1:=HI2.out.few;have hpE:H.pages=A.W.pages:=HO.out.2.1;have hp1:=HPG.out.2.1;have hp2:=HPG.out.2.2.1;exact HS.out.next (S':=A.S) (W':=H) (wr:=true) HBA.out (HI2.out.same.keep.trans (Keep.setWork H true)) (by show aN P2.lg≤_;omega) HTM.out rfl rfl HO.out.1 (by omega) HO.out.2.2.2 (fun x=>by cases x) HS.out.svk2 (HI2.out.u.setWork H true) HI2.out.sv (by have:=HO.out.2.1;show H.pages≤N;omega) (by show N≤_;omega) fun m m1 m2=>HTB.out m m1 (by have:=HO.out.2.1;omega))
   clear hr;go_wp2_with fail;go_ret;exact ⟨rfl,HR.out⟩
end Go.Proofs.YtdmhbgpejppbkaaGreat
