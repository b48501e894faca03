/- Journal and log as they are seen from without: the head's mode, one change more. PagerModes's walk. -/
import Derived.Test.YtdmhbgpejppbkaaGreatXGbv
import Derived.Test.YtdmhbgpejppbkaaGreatXGby
set_option maxRecDepth 100000
set_option maxHeartbeats 4000000
namespace Go.Proofs.YtdmhbgpejppbkaaGreat
open Go.RowKit Go.Maps
def Hd.up (h:Hd):Hd:={ h with mode:=2,change:=h.change+1 }
def He.up (h:He):He:={ h with mode:=2,change:=h.change+1 }
theorem zA (W:He):Hd.of W.up=(Hd.of W).up:=by unfold Hd.of He.up Hd.up;simp only [Int.natCast_add];rfl
theorem tf {h:Hd} (hc:0≤h.change):He.ofHd h.up=(He.ofHd h).up:=by unfold He.ofHd Hd.up He.up;simp only [He.mk.injEq,true_and];exact ⟨rfl,by omega⟩
theorem vC (h:Hd) (B:Int→By):(az h.up B).e=(az h B).e∧(az h.up B).n=(az h B).n∧(az h.up B).B=(az h B).B∧((az h B).e=0→(az h.up B).h=(az h B).h.up):=by
 by_cases hs:h.spare=0
 ·by_cases hp:4096≤h.pages
  ·have e1:az h B=ao B 22:=by unfold az;rw [if_pos hs,if_pos hp]
   have e2:az h.up B=ao B 22:=by unfold az;rw [if_pos (show h.up.spare=0 from hs),if_pos (show 4096≤h.up.pages from hp)]
   rw [e1,e2];exact ⟨rfl,rfl,rfl,fun hx=>by simp [ao] at hx⟩
  ·have e1:az h B=⟨h.pages,{ h with pages:=h.pages+1 },0,B⟩:=by unfold az;rw [if_pos hs,if_neg hp]
   have e2:az h.up B=⟨h.up.pages,{ h.up with pages:=h.up.pages+1 },0,B⟩:=by unfold az;rw [if_pos (show h.up.spare=0 from hs),if_neg (show ¬ 4096≤h.up.pages from hp)]
   rw [e1,e2];exact ⟨rfl,rfl,rfl,fun _=>rfl⟩
 ·by_cases hd:cT (B h.trunk)=false
  ·have e1:az h B=ao B 30:=by unfold az;rw [if_neg hs,if_pos hd]
   have e2:az h.up B=ao B 30:=by unfold az;rw [if_neg (show ¬ h.up.spare=0 from hs),if_pos (show cT (B h.up.trunk)=false from hd)]
   rw [e1,e2];exact ⟨rfl,rfl,rfl,fun hx=>by simp [ao] at hx⟩
  ·have e1:az h B=if de (bt (B h.trunk)) h.pages then ao B 30 else if 0<(bt (B h.trunk)).list.length then ⟨(bt (B h.trunk)).list.getD ((bt (B h.trunk)).list.length - 1) 0,{ h with spare:=h.spare - 1 },0,bW B h.trunk (aT (eG ⟨(bt (B h.trunk)).next,(bt (B h.trunk)).list.take ((bt (B h.trunk)).list.length - 1)⟩))⟩ else if (((bt (B h.trunk)).next == 0) != (h.spare == 1)) then ao B 30 else ⟨h.trunk,{ h with trunk:=(bt (B h.trunk)).next,spare:=h.spare - 1 },0,B⟩:=by unfold az;rw [if_neg hs,if_neg hd]
   have e2:az h.up B=if de (bt (B h.trunk)) h.pages then ao B 30 else if 0<(bt (B h.trunk)).list.length then ⟨(bt (B h.trunk)).list.getD ((bt (B h.trunk)).list.length - 1) 0,{ h.up with spare:=h.spare - 1 },0,bW B h.trunk (aT (eG ⟨(bt (B h.trunk)).next,(bt (B h.trunk)).list.take ((bt (B h.trunk)).list.length - 1)⟩))⟩ else if (((bt (B h.trunk)).next == 0) != (h.spare == 1)) then ao B 30 else ⟨h.trunk,{ h.up with trunk:=(bt (B h.trunk)).next,spare:=h.spare - 1 },0,B⟩:=by unfold az;rw [if_neg (show ¬ h.up.spare=0 from hs),if_neg (show ¬ cT (B h.up.trunk)=false from hd)];rfl
   rw [e1,e2]
   split
   ·exact ⟨rfl,rfl,rfl,fun hx=>by simp [ao] at hx⟩
   ·split
    ·exact ⟨rfl,rfl,rfl,fun _=>rfl⟩
    ·split
     ·exact ⟨rfl,rfl,rfl,fun hx=>by simp [ao] at hx⟩
     ·exact ⟨rfl,rfl,rfl,fun _=>rfl⟩
theorem wP (h:Hd) (B:Int→By) (n:Int):(aP h.up B n).e=(aP h B n).e∧(aP h.up B n).B=(aP h B n).B∧((aP h B n).e=0→(aP h.up B n).h=(aP h B n).h.up):=by
 have e2:aP h.up B n=if n<1∨h.pages≤n then aM B 1 else if h.pages - 1≤h.spare then aM B 30 else if h.trunk=0 then ⟨{ h.up with trunk:=n,spare:=h.spare+1 },0,bW B n (aT (eG ⟨0,[]⟩))⟩ else if cT (B h.trunk)=false then aM B 30 else if (bt (B h.trunk)).list.length<50 then ⟨{ h.up with spare:=h.spare+1 },0,bW B h.trunk (aT (eG ⟨(bt (B h.trunk)).next,(bt (B h.trunk)).list ++ [n]⟩))⟩ else ⟨{ h.up with trunk:=n,spare:=h.spare+1 },0,bW B n (aT (eG ⟨h.trunk,[]⟩))⟩:=rfl
 rw [e2];unfold aP
 split
 ·exact ⟨rfl,rfl,fun hx=>by simp [aM] at hx⟩
 ·split
  ·exact ⟨rfl,rfl,fun hx=>by simp [aM] at hx⟩
  ·split
   ·exact ⟨rfl,rfl,fun _=>rfl⟩
   ·split
    ·exact ⟨rfl,rfl,fun hx=>by simp [aM] at hx⟩
    ·split
     ·exact ⟨rfl,rfl,fun _=>rfl⟩
     ·exact ⟨rfl,rfl,fun _=>rfl⟩
def Ab.up (A:Ab):Ab:={ A with H:=A.H.up,W:=A.W.up,S:=A.S.map fun a=>(a.1.up,a.2) }
section
variable (A:Ab) (x:Ac)
theorem si:A.up.tk.e=A.tk.e∧A.up.tk.n=A.tk.n∧A.up.new=A.new.up:=by
 obtain ⟨a,b,c,d⟩:=vC (Hd.of A.W) A.B;have e:A.up.tk=az (Hd.of A.W).up A.B:=by unfold Ab.tk;rw [show A.up.W=A.W.up from rfl,zA];rfl
 rw [e];refine ⟨a,b,?_⟩;unfold Ab.new;rw [e,a];by_cases h0:A.tk.e=0
 ·have h0':(az (Hd.of A.W) A.B).e=0:=h0;rw [if_pos h0',if_pos h0,b,c,d h0'];have hc:0≤(az (Hd.of A.W) A.B).h.change:=by rw [(pA _ _ h0').1];show (0:Int)≤(A.W.change:Int);omega
  rw [tf hc];rfl
 ·have h0':¬ (az (Hd.of A.W) A.B).e=0:=h0;rw [if_neg h0',if_neg h0]
theorem tq (n:Int):qF A.up n=qF A n∧A.up.free n=(A.free n).up:=by
 obtain ⟨a,c,d⟩:=wP (Hd.of A.W) A.B n;have e:A.up.gv n=aP (Hd.of A.W).up A.B n:=by unfold Ab.gv;rw [show A.up.W=A.W.up from rfl,zA];rfl
 have e1:qF A.up n=qF A n:=by unfold qF;rw [e,a];rfl
 refine ⟨e1,?_⟩;unfold Ab.free;rw [e1];by_cases h0:qF A n=0
 ·rw [if_pos h0,if_pos h0];have h0':(aP (Hd.of A.W) A.B n).e=0:=by
   unfold qF at h0
   split at h0
   ·cases h0
   ·exact h0
  rw [e,c,d h0'];have hc:0≤(aP (Hd.of A.W) A.B n).h.change:=by rw [(qB _ _ _ h0').1];show (0:Int)≤(A.W.change:Int);omega
  rw [tf hc];rfl
 ·rw [if_neg h0,if_neg h0]
theorem wu:A.up.now=A.now.up:=by unfold Ab.now;rw [show A.up.busy=A.busy from rfl];split <;> rfl
theorem zZ:A.up.pgs=A.pgs:=rfl
theorem oP:A.up.W1.Fit↔A.W1.Fit:=⟨fun ⟨a,b,c⟩=>⟨a,b,c⟩,fun ⟨a,b,c⟩=>⟨a,b,c⟩⟩
theorem wv:A.up.comE=A.comE∧A.up.comA=A.comA.up:=by
 unfold Ab.comE Ab.comA;rw [show A.up.busy=A.busy from rfl,show A.up.wrote=A.wrote from rfl];cases A.busy
 ·exact ⟨rfl,rfl⟩
 ·cases A.wrote
  ·exact ⟨rfl,rfl⟩
  ·simp only [if_true];by_cases hf:A.W1.Fit
   ·rw [if_pos hf,if_pos ((oP A).2 hf),if_pos hf,if_pos ((oP A).2 hf)];exact ⟨rfl,rfl⟩
   ·rw [if_neg hf,if_neg fun h=>hf ((oP A).1 h),if_neg hf,if_neg fun h=>hf ((oP A).1 h)];exact ⟨rfl,rfl⟩
theorem oO:A.up.S.length=A.S.length:=List.length_map _
theorem tm:A.up.saveE=A.saveE∧A.up.saveA=A.saveA.up:=by
 unfold Ab.saveE Ab.saveA;rw [show A.up.busy=A.busy from rfl,oO];cases A.busy
 ·exact ⟨rfl,rfl⟩
 ·simp only [if_true];by_cases h:A.S.length<16
  ·rw [if_pos h,if_pos h];refine ⟨trivial,?_⟩;unfold Ab.save Ab.up;simp only [List.map_append,List.map_cons,List.map_nil]
  ·rw [if_neg h,if_neg h];exact ⟨trivial,rfl⟩
theorem Bw (k:Int):A.up.kE k=A.kE k:=by unfold Ab.kE;rw [oO];rfl
theorem yE (k:Int):A.up.backA k=(A.backA k).up:=by
 unfold Ab.backA;rw [oO,show A.up.busy=A.busy from rfl];cases A.busy
 ·rfl
 ·simp only [if_true]
  split
  ·rfl
  ·unfold Ab.back;rw [show A.up.S[(k - 1).toNat]?=(A.S[(k - 1).toNat]?).map fun a=>(a.1.up,a.2) from List.getElem?_map];cases A.S[(k - 1).toNat]? with
   | none=>rfl
   | some a=> unfold Ab.up;simp only [Option.map_some,List.map_take]
theorem sh (k:Int):A.up.releaseA k=(A.releaseA k).up:=by
 unfold Ab.releaseA;rw [oO,show A.up.busy=A.busy from rfl];cases A.busy
 ·rfl
 ·simp only [if_true]
  split
  ·rfl
  ·unfold Ab.release Ab.up;simp only [List.map_take]
theorem zY (n:Int) (s:By):A.up.put n s=(A.put n s).up:=by
 unfold Ab.put;rw [show A.up.W.pages=A.W.pages from rfl]
 split <;> rfl
theorem yD (n:Int):A.up.root n=(A.root n).up:=by
 unfold Ab.root;rw [show A.up.W.pages=A.W.pages from rfl]
 split <;> rfl
theorem iq {b:Bool} {X Y:Ab} {X' Y':Ab} (h1:X'=X.up) (h2:Y'=Y.up):(if b then X' else Y')=(if b then X else Y).up:=by
 cases b
 ·exact h2
 ·exact h1
theorem yC (hk:x.kind<13):A.up.said x=A.said x:=by unfold Ab.said;rw [(si A).1,(si A).2.1,(tq A x.n).1,(wv A).1,(tm A).1,Bw,wu,zZ,if_neg (show ¬ x.kind=13 by omega),if_neg (show ¬ x.kind=14 by omega),if_neg (show ¬ x.kind=13 by omega),if_neg (show ¬ x.kind=14 by omega)];rfl
theorem yB (hk:x.kind<13):A.up.step x=(A.step x).up:=by
 have n13:¬ x.kind=13:=by omega
 unfold Ab.step;rw [show A.up.busy=A.busy from rfl];by_cases h1:x.kind=1
 ·rw [if_pos h1,if_pos h1]
 rw [if_neg h1,if_neg h1];by_cases h2:x.kind=2
 ·rw [if_pos h2,if_pos h2];exact iq (zY A _ _) rfl
 rw [if_neg h2,if_neg h2];by_cases h3:x.kind=3
 ·rw [if_pos h3,if_pos h3];exact iq (si A).2.2 rfl
 rw [if_neg h3,if_neg h3];by_cases h4:x.kind=4
 ·rw [if_pos h4,if_pos h4];exact iq (tq A _).2 rfl
 rw [if_neg h4,if_neg h4];by_cases h5:x.kind=5
 ·rw [if_pos h5,if_pos h5];exact iq (yD A _) rfl
 rw [if_neg h5,if_neg h5];by_cases h6:x.kind=6
 ·rw [if_pos h6,if_pos h6];exact iq rfl rfl
 rw [if_neg h6,if_neg h6];by_cases h7:x.kind=7
 ·rw [if_pos h7,if_pos h7];exact iq rfl rfl
 rw [if_neg h7,if_neg h7];by_cases h8:x.kind=8
 ·rw [if_pos h8,if_pos h8];exact (wv A).2
 rw [if_neg h8,if_neg h8];by_cases h9:x.kind=9
 ·rw [if_pos h9,if_pos h9];unfold Ab.rollA;rw [show A.up.busy=A.busy from rfl];exact iq rfl rfl
 rw [if_neg h9,if_neg h9];by_cases h10:x.kind=10
 ·rw [if_pos h10,if_pos h10];exact (tm A).2
 rw [if_neg h10,if_neg h10];by_cases h11:x.kind=11
 ·rw [if_pos h11,if_pos h11];exact yE A _
 rw [if_neg h11,if_neg h11];by_cases h12:x.kind=12
 ·rw [if_pos h12,if_pos h12];exact sh A _
 rw [if_neg h12,if_neg h12,if_neg n13,if_neg n13]
end
theorem Rz.setAW {P:Pgr} {A:Ab} {t:Nat} (h:Rz P A t) (hb:A.busy=false) (W:He):Rz P { A with W:=W } t:=by
 have hbc:∀ {α:Prop},A.busy=true→α:=fun hx=>by rw [hb] at hx;cases hx
 have e1:({ A with W:=W }:Ab).now=A.now:=by unfold Ab.now;rw [hb];rfl
 have e2:({ A with W:=W }:Ab).pgs=A.pgs:=rfl;refine ⟨h.head,h.busy,hbc,hbc,h.hok,hbc,h.bse,h.hp,hbc,h.hc,hbc,h.md,h.lgn,h.idle,h.svk,?_,h.t,hbc,h.gd⟩;obtain ⟨N,B,u,sv,hN,hNt,hB⟩:=h.pg;exact ⟨N,B,u,sv,by rw [e1];exact hN,hNt,by rw [e1,e2];exact hB⟩
theorem Par.chg {w wr:World} {gp gq:Nat} {A A':Ab} {t t':Nat} (h:Par w gp gq wr A A' t t'):A.now.change≤75:=by
 obtain ⟨L,P,L',P',g,g',p,p',r,r',ap,f,f',b⟩:=h;have h1:=r.hc;have h2:=r.t;unfold Ab.now;cases hb:A.busy
 ·simp only [Bool.false_eq_true,if_false];omega
 ·simp only [if_true];rw [(r.wc hb).1];omega
theorem Par.mode {w wr:World} {gp gq:Nat} {dg eg:Nat × Int} (h:Par w gp gq wr (A0 dg) (A0 eg) 0 0):
  Calls Tryz.prog 14 #[.pointer (some ⟨gq,0,none⟩),.int .i64 2] wr fun e w2=>e=.returned (.int .i64 0)∧Par w gp gq w2 (A0 dg) (A0 eg).up 0 1:=by
 have h1:=h.swap.call (A1:=(A0 eg).up) (F:=14) (args:=#[.pointer (some ⟨gq,0,none⟩),.int .i64 2]) (v:=.int .i64 0) fun L P g p r=>by
  rw [← g];refine (kW 2 wr p r (by omega)).mono ?_;rintro e w2 ⟨rfl,P1,r1,h2⟩;exact ⟨rfl,P1,r1.setAW rfl H0.up,h2⟩
 exact h1.mono fun _ _ ⟨a,b⟩=>⟨a,b.swap⟩
end Go.Proofs.YtdmhbgpejppbkaaGreat
namespace Go.Proofs.YtdmhbgpejppbkaaGreat
open Go.Lib (hid)
open Go.RowKit Go.Maps
theorem ry (a:Int) (v:Value) (xs:List (Ac × Value)) (w:World) (hv:Sl zG 5 w v xs) (hl:xs.length≤9223372036854775807) (hf:∀ p ∈ xs,∃ s l c,p.2=Value.slice s l c):
  Calls Tryz.prog 4 #[.int .i64 a,v] w fun e w'=>e=.returned (.bool true)∧Below w.heap.size w w':=by
 have HV:=hid hv;have HL:=hid hl;have HFS:=hid hf;obtain ⟨A,c,rfl⟩:=Sl.len' hv;clear hv hl hf;go_enter Tryz.func4,Tryz.ntmps4;go_wp2_with fail;refine (jU w).mono ?_;rintro e w1 ⟨rfl,hb1⟩;have HB1:=hid hb1;clear hb1;go_wp2_with fail;refine (fg 16384 w1).mono ?_;rintro e w2 ⟨D,rfl,hd,hF,hb⟩;have HB2:=hid (HB1.out.trans (hb.mono HB1.out.size));have HD:=hid (And.intro hd (fun k (hk:D.F k)=>(show w.heap.size≤k∧k<w2.heap.size from ⟨Nat.le_trans HB1.out.size (hF k hk),hd.lt hk⟩)));clear hd hF hb;go_wp2_with fail;refine (fg 16384 w2).mono ?_;rintro e w3 ⟨E,rfl,he,hG,hb⟩;have HB3:=hid hb;have HE:=hid (And.intro he (fun k (hk:E.F k)=>(show w2.heap.size≤k∧k<w3.heap.size from ⟨hG k hk,he.lt hk⟩)));have HOP:=hid (dC a w3 (HD.out.1.ch (Ch.of_below (S:=fun _=>False) hb) (fun _ _ h=>h)) rfl rfl);unfold ai at HOP;clear he hG hb;go_wp2_with fail;refine HOP.out.mono ?_;rintro e w4 ⟨L,rfl,p4,f4,c4⟩;have HOQ:=hid (dC a w4 (HE.out.1.ch c4 (fun k hk h2=>by have:=HD.out.2 k h2;have:=HE.out.2 k hk;omega)) rfl rfl);have HP4:=hid (And.intro p4 (And.intro f4 c4));unfold ai at HOQ;clear p4 f4 c4;go_wp2_with fail;refine HOQ.out.mono ?_;rintro e w5 ⟨M,rfl,p5,f5,c5⟩;have HPR:=hid (Bq HB2.out HD.out.2 HB3.out HE.out.2 HP4.out.1 HP4.out.2.1 HP4.out.2.2 p5 f5 c5);clear p5 f5 c5;generalize L.gp=gp at *;generalize M.gp=gq at *;generalize (D.gd,(0:Int))=dg at *;generalize (E.gd,(0:Int))=eg at *;have HMO:=hid HPR.out.mode;go_wp2_with fail;refine HMO.out.mono ?_;rintro e w6 ⟨rfl,hpm⟩;have HPM:=hid hpm;clear hpm;go_wp2_with fail;go_loopw [11] (fun iv wr=>∃ k:Nat,k≤xs.length∧k≤70∧iv=.int .i64 k∧∃ B t,t≤k∧Par w gp gq wr B (B.up.setG eg) t (t+1)) (fun iv _=>70 - (intOf iv).toNat)
 case atStart=>exact ⟨0,Nat.zero_le _,by omega,rfl,A0 dg,0,Nat.le_refl _,HPM.out⟩
 case round=>
  obtain ⟨k,hk,hk7,rfl,B,t,htk,hpar⟩:=hrel;have HR:=hid hpar;have HTK:=hid htk;clear hpar htk;by_cases hkl:k<xs.length
  ·by_cases hk70:k<70
   ·obtain ⟨b,off,c',he,hbl,hcells⟩:=HV.out.at1 hkl;injection he with he1 he2 he3
    subst he1 he3;have hk0:(0:Int)≤(k:Int):=by omega
    have hk1:(k:Int)<(xs.length:Int):=by omega
    have hk2:(k:Int)<70:=by omega
    have HK:=hid (And.intro hkl hk70);obtain ⟨fs,fl,fc,hfx⟩:=HFS.out _ (List.getElem_mem hkl);generalize xs[k]=xf at *;obtain ⟨x,f⟩:=xf;simp only at hfx;subst hfx;obtain ⟨xk,xn,xd,xs'⟩:=x;have HC0:=hid (show w.cell? ⟨b,off+k * 5,none⟩=some (.int .i64 xk)∧w.cell? ⟨b,off+k * 5+1,none⟩=some (.int .i64 xn)∧w.cell? ⟨b,off+k * 5+2,none⟩=some (.string (aj xd))∧w.cell? ⟨b,off+k * 5+3,none⟩=some (.bool xs')∧w.cell? ⟨b,off+k * 5+4,none⟩=some (.slice fs fl fc) from ⟨hcells 0 _ rfl,hcells 1 _ rfl,hcells 2 _ rfl,hcells 3 _ rfl,hcells 4 _ rfl⟩);have HBL:=hid hbl;have hbw:=HR.out.bel;have as0:wr.cell? ⟨b,off+k * 5,none⟩=some (.int .i64 xk):=(hbw.cell (p:=⟨b,off+k * 5,none⟩) HBL.out).trans HC0.out.1;have as1:wr.cell? ⟨b,off+k * 5+1,none⟩=some (.int .i64 xn):=(hbw.cell (p:=⟨b,off+k * 5+1,none⟩) HBL.out).trans HC0.out.2.1;have as2:wr.cell? ⟨b,off+k * 5+2,none⟩=some (.string (aj xd)):=(hbw.cell (p:=⟨b,off+k * 5+2,none⟩) HBL.out).trans HC0.out.2.2.1;have as3:wr.cell? ⟨b,off+k * 5+3,none⟩=some (.bool xs'):=(hbw.cell (p:=⟨b,off+k * 5+3,none⟩) HBL.out).trans HC0.out.2.2.2.1;have as4:wr.cell? ⟨b,off+k * 5+4,none⟩=some (.slice fs fl fc):=(hbw.cell (p:=⟨b,off+k * 5+4,none⟩) HBL.out).trans HC0.out.2.2.2.2;have hblw:b<wr.heap.size:=Nat.lt_of_lt_of_le hbl hbw.size;clear hcells hkl hk70 hk hk7 hbw;by_cases h13:13≤xk
    ·have hge:decide (xk ≥ 13)=true:=decide_eq_true h13;go_wp2_with fail;go_roundw
     case rel=>exact ⟨k+1,by have:=HK.out;omega,by have:=HK.out;omega,by go_num,B,t,by have:=HTK.out;omega,HR.out⟩
     case measure=>simp [intOf];omega
    ·have hge:decide (xk ≥ 13)=false:=decide_eq_false h13;have hlx:xk<13:=by omega
     have HDP:=hid (fun (w':World) (h:Par w gp gq w' B (B.up.setG eg) t (t+1))=>h.does ⟨xk,xn,xd,xs'⟩ (.slice fs fl fc) (by have:=HTK.out;have:=HK.out;omega));have HDQ:=hid (fun (w':World) (h:Par w gp gq w' (B.step ⟨xk,xn,xd,xs'⟩) (B.up.setG eg) (t+1) (t+1))=>h.does2g ⟨xk,xn,xd,xs'⟩ (.slice fs fl fc) (by have:=HTK.out;have:=HK.out;omega));rw [yC B ⟨xk,xn,xd,xs'⟩ hlx,yB B ⟨xk,xn,xd,xs'⟩ hlx] at HDQ;obtain ⟨rs,rn,re,hr⟩:∃ rs rn re,B.said ⟨xk,xn,xd,xs'⟩=(rs,rn,re):=⟨_,_,_,rfl⟩;rw [hr] at HDP HDQ;unfold zv Ac.cells fR at HDP HDQ;simp only at HDP HDQ;obtain ⟨B',hB'⟩:∃ B',B.step ⟨xk,xn,xd,xs'⟩=B':=⟨_,rfl⟩;rw [hB'] at HDP HDQ;have HPH:=hid (fun (w':World) (h:Par w gp gq w' B' (B'.up.setG eg) (t+1) (t+1+1))=>h.head);have HQH:=hid (fun (w':World) (h:Par w gp gq w' B' (B'.up.setG eg) (t+1) (t+1+1))=>h.head2g);rw [wu] at HQH;unfold He.up at HQH;simp only at HQH;clear hr hB' hlx;go_upto_region 13 with fail
     go_region_held3 (fun w'=>w'.cell? ⟨b,off+k * 5,none⟩=some (.int .i64 xk)∧w'.cell? ⟨b,off+k * 5+1,none⟩=some (.int .i64 xn)∧w'.cell? ⟨b,off+k * 5+2,none⟩=some (.string (aj xd))∧w'.cell? ⟨b,off+k * 5+3,none⟩=some (.bool xs')∧w'.cell? ⟨b,off+k * 5+4,none⟩=some (.slice fs fl fc)) (first | exact ⟨cs0,cs1,cs2,cs3,cs4⟩ | exact ⟨bs0,bs1,bs2,bs3,bs4⟩ | exact ⟨as0,as1,as2,as3,as4⟩)
      (first
       | (go_at_call 12;(with_reducible refine (HDP.out _ ?ba).mono ?_);(case ba=>exact HR.out.below ((Below.refl wr.heap.size wr).drew));rintro e w8 ⟨rfl,hp8⟩
          have HP8:=hid hp8;have hbw:=hp8.bel;have bs0:w8.cell? ⟨b,off+k * 5,none⟩=some (.int .i64 xk):=(hbw.cell (p:=⟨b,off+k * 5,none⟩) HBL.out).trans HC0.out.1;have bs1:w8.cell? ⟨b,off+k * 5+1,none⟩=some (.int .i64 xn):=(hbw.cell (p:=⟨b,off+k * 5+1,none⟩) HBL.out).trans HC0.out.2.1;have bs2:w8.cell? ⟨b,off+k * 5+2,none⟩=some (.string (aj xd)):=(hbw.cell (p:=⟨b,off+k * 5+2,none⟩) HBL.out).trans HC0.out.2.2.1;have bs3:w8.cell? ⟨b,off+k * 5+3,none⟩=some (.bool xs'):=(hbw.cell (p:=⟨b,off+k * 5+3,none⟩) HBL.out).trans HC0.out.2.2.2.1;have bs4:w8.cell? ⟨b,off+k * 5+4,none⟩=some (.slice fs fl fc):=(hbw.cell (p:=⟨b,off+k * 5+4,none⟩) HBL.out).trans HC0.out.2.2.2.2;clear hp8 hbw)
       | (go_at_call 12;(with_reducible refine (HDQ.out _ HP8.out).mono ?_);rintro e w9 ⟨rfl,hp9⟩
          have HP9:=hid hp9;have hbw:=hp9.bel;have cs0:w9.cell? ⟨b,off+k * 5,none⟩=some (.int .i64 xk):=(hbw.cell (p:=⟨b,off+k * 5,none⟩) HBL.out).trans HC0.out.1;have cs1:w9.cell? ⟨b,off+k * 5+1,none⟩=some (.int .i64 xn):=(hbw.cell (p:=⟨b,off+k * 5+1,none⟩) HBL.out).trans HC0.out.2.1;have cs2:w9.cell? ⟨b,off+k * 5+2,none⟩=some (.string (aj xd)):=(hbw.cell (p:=⟨b,off+k * 5+2,none⟩) HBL.out).trans HC0.out.2.2.1;have cs3:w9.cell? ⟨b,off+k * 5+3,none⟩=some (.bool xs'):=(hbw.cell (p:=⟨b,off+k * 5+3,none⟩) HBL.out).trans HC0.out.2.2.2.1;have cs4:w9.cell? ⟨b,off+k * 5+4,none⟩=some (.slice fs fl fc):=(hbw.cell (p:=⟨b,off+k * 5+4,none⟩) HBL.out).trans HC0.out.2.2.2.2;clear hp9 hbw))
     clear as0 as1 as2 as3 as4 bs0 bs1 bs2 bs3 bs4 cs0 cs1 cs2 cs3 cs4 hblw;go_wp2_with fail;refine (HPH.out _ HP9.out).mono ?_;rintro e w10 ⟨rfl,-,hp10⟩;have hcg:=hp10.chg;have hwr:IntKind.u64.wrap ((B'.now.change:Int)+1)=(B'.now.change:Int)+1:=IntWalk.u64_in _ (by omega);have HP10:=hid hp10;clear hp10 hcg;generalize hNow:B'.now=H at *;go_upto_region 18 with fail
     obtain ⟨g,hg⟩:∃ g,g=w10.heap.size:=⟨_,rfl⟩;obtain ⟨ho,hho⟩:∃ ho:Obj,ho=.cells #[.int .i64 2,.int .i64 H.pages,.int .i64 H.trunk,.int .i64 H.spare,.int .i64 H.root,.int .u64 ((H.change:Int)+1)] 38:=⟨_,rfl⟩;rw [← hg,← hho];have hba:Below w10.heap.size w10 (w10.alloc ho):=(Below.refl _ w10).alloc (Nat.le_refl _) _;have HBA:=hid hba;have hnb:(w10.alloc ho).heap[g]?=some ho:=by rw [hg,hho];exact af rfl
     have HNB:=hid (And.intro hnb hho);have HPA:=hid (HP10.out.below hba);generalize w10.alloc ho=wA at *;have as0:=aa (hho ▸ hnb) 0;have as1:=aa (hho ▸ hnb) 1;have as2:=aa (hho ▸ hnb) 2;have as3:=aa (hho ▸ hnb) 3;have as4:=aa (hho ▸ hnb) 4;have as5:=aa (hho ▸ hnb) 5;simp only [List.getElem?_toArray,List.getElem?_cons_succ,List.getElem?_cons_zero] at as0 as1 as2 as3 as4 as5;have gl:=ab hnb;clear hg hho hba hnb
     go_region_held3 (fun w'=>w'.cell? ⟨g,0,none⟩=some (.int .i64 2)∧w'.cell? ⟨g,1,none⟩=some (.int .i64 H.pages)∧w'.cell? ⟨g,2,none⟩=some (.int .i64 H.trunk)∧w'.cell? ⟨g,3,none⟩=some (.int .i64 H.spare)∧w'.cell? ⟨g,4,none⟩=some (.int .i64 H.root)∧w'.cell? ⟨g,5,none⟩=some (.int .u64 ((H.change:Int)+1))) (first | exact ⟨bs0,bs1,bs2,bs3,bs4,bs5⟩ | exact ⟨as0,as1,as2,as3,as4,as5⟩)
      (first
       | (go_at_call 13;(refine (HQH.out _ ?ba).mono ?_);(case ba=>exact HPA.out.below ((Below.refl wA.heap.size wA).drew));rintro e w12 ⟨rfl,hb12,hp12⟩
          have HP12:=hid hp12;have hn2:=aB HNB.out.1 (((Below.refl wA.heap.size wA).drew).trans hb12);rw [HNB.out.2] at hn2;have bs0:=aa hn2 0;have bs1:=aa hn2 1;have bs2:=aa hn2 2;have bs3:=aa hn2 3;have bs4:=aa hn2 4;have bs5:=aa hn2 5;simp only [List.getElem?_toArray,List.getElem?_cons_succ,List.getElem?_cons_zero] at bs0 bs1 bs2 bs3 bs4 bs5;clear hp12 hb12 hn2))
     all_goals
      clear as0 as1 as2 as3 as4 as5 bs0 bs1 bs2 bs3 bs4 bs5 gl;go_wp2_with fail;go_roundw
      case rel=>exact ⟨k+1,by have:=HK.out;omega,by have:=HK.out;omega,by go_num,_,t+1,by have:=HTK.out;omega,HP12.out⟩
      case measure=>simp [intOf];omega
   ·obtain rfl:k=70:=by omega
    have hk1:(70:Int)<(xs.length:Int):=by omega
    clear hk hk7 hk70;go_wp2_with fail;go_ret;exact ⟨rfl,HR.out.bel⟩
  ·obtain rfl:k=xs.length:=by omega
   clear hk hkl;go_wp2_with fail;go_ret;exact ⟨rfl,HR.out.bel⟩
end Go.Proofs.YtdmhbgpejppbkaaGreat
