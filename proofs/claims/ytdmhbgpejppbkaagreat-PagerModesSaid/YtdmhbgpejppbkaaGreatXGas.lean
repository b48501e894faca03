/- journal: Note, Seal. journal: Note. A log: plain; in memory; top, Len, sum. The walks of a cache's found, Get, Forget, Clean, Len. The walks of a cache's Forget, Get, Clean. -/
import Derived.Test.YtdmhbgpejppbkaaGreatXGar
import Derived.Test.YtdmhbgpejppbkaaGreatXGaj
import Derived.Deep.RegionHeld3
import Derived.Deep.CutBlock
set_option maxRecDepth 100000
set_option maxHeartbeats 2000000
namespace Go.Proofs.YtdmhbgpejppbkaaGreat
open Go.Lib (hid)
open Go.RowKit Go.Maps
def Jn.sealD (j:Jn) (d:Dk):Dk:=
 if 0<j.feet∧j.loose=0 then d else
  let d1:=if 0<j.loose then d.setF aQ Fi.settle else d
  (d1.wr aQ (d1.len aQ) (aI 3 j.loose j.salt (bB j.pages j.feet))).setF aQ Fi.settle
def Jn.sealJ (j:Jn):Jn:=if 0<j.feet∧j.loose=0 then j else { j with feet:=j.feet+1,loose:=0 }
def BM (w:World) (L:DkM) (gj gn:Nat) (d:Dk) (j:Jn) (w':World):Prop:=∃ L',L'.gd=L.gd∧DkIs w' L' d∧JnIs w' L.gd gj gn j∧(∀ k,L'.F k→L.F k∨w.heap.size≤k)∧Ch (fun k=>L.F k∨k=gj∨k=gn) w w'
structure CanSeal (d:Dk) (j:Jn):Prop where
 fine:d.Fine
 few:d.file aQ=none→d.files.length<8
 room:(d.total:Int)<d.room
 loose:0<j.loose→∃ f,d.file aQ=some f
 f1:j.feet<1000000
theorem oh {d:Dk} (h:d.Ok) {n:By}:(d.setF n Fi.settle).total=d.total:=by
 have h1:=pL h.nd (a:=n) (b:=((d.file n).getD .empty).settle) fun f=>f.now.length
 unfold Dk.total Dk.setF;simp only;have h2:((aC d.files n).map fun f=>f.now.length).getD 0=(((d.file n).getD .empty).settle).now.length:=by unfold Dk.file;cases aC d.files n <;> rfl
 omega
def Jn.syncD (j:Jn) (d:Dk):Dk:=if 0<j.loose then d.setF aQ Fi.settle else d
theorem uS {j:Jn} {d:Dk} (h:CanSeal d j) (hd:d.Ok):(j.syncD d).Fine∧(j.syncD d).Can aQ ((j.syncD d).len aQ):=by
 unfold Jn.syncD
 split
 ·rename_i hl
  obtain ⟨f,hf⟩:=h.loose hl;refine ⟨h.fine.setF,Nat.le_refl _,fun hn=>?_,fun _=>?_⟩
  ·rw [Dk.setF_file hd,if_pos rfl] at hn;cases hn
  ·rw [oh hd];exact h.room
 ·exact ⟨h.fine,Nat.le_refl _,h.few,fun _=>h.room⟩
theorem jK (j:Jn) (w:World) {L:DkM} {d:Dk} {gj gn:Nat} (h:DkIs w L d) (hj:JnIs w L.gd gj gn j) (h1:¬ L.F gj) (h2:¬ L.F gn) (hc:CanSeal d j):
  Calls Tryz.prog 172 #[ai gj] w fun e w'=>e=.returned (.int .i64 0)∧BM w L gj gn (j.sealD d) j.sealJ w':=by
 have HH:=hid h;have HJ:=hid hj;obtain ⟨c0,c1,c2,c3,c4,c5,cl,cf⟩:=fO hj.blk;have j0:=hj.ok;have HF:=hid (fun w=>lU j.pages j.feet w j0.pages j0.feet);have HC:=hid hc;by_cases hft:0<j.feet∧j.loose=0
 ·have HE:=hid (show j.sealD d=d∧j.sealJ=j from ⟨by unfold Jn.sealD;rw [if_pos hft],by unfold Jn.sealJ;rw [if_pos hft]⟩);have hf2:(0:Int)<(j.feet:Int):=by omega
  have hl2:((j.loose:Nat):Int)=0:=by omega
  rw [hl2] at c4;clear h hj cf hft j0 hc;unfold ai at *;go_enter Tryz.func172,Tryz.ntmps172;go_wp2_with fail;go_ret;exact ⟨rfl,L,rfl,by rw [HE.out.1];exact HH.out,by rw [HE.out.2];exact HJ.out,fun k hk=>.inl hk,Ch.refl _ _⟩
 ·have HE:=hid (show j.sealD d=((j.syncD d).wr aQ ((j.syncD d).len aQ) (aI 3 j.loose j.salt (bB j.pages j.feet))).setF aQ Fi.settle∧j.sealJ={ j with feet:=j.feet+1,loose:=0 } from
   ⟨by unfold Jn.sealD;rw [if_neg hft];rfl,by unfold Jn.sealJ;rw [if_neg hft]⟩)
  have HFS:=hid (uS hc h.ok);have HFT:=hid hft;clear h hj cf hft hc;unfold ai at *;go_enter Tryz.func172,Tryz.ntmps172;go_upto_block 0 with fail
  go_cut [3] from 6 to 35 (fun _ wc=>∃ L1,L1.gd=L.gd∧DkIs wc L1 (j.syncD d)∧(∀ k,L1.F k→L.F k∨w.heap.size≤k)∧Ch L.F w wc)
  case first=>
   by_cases hl:0<j.loose
   ·have HSY:=hid (dJ aQ (by decide) w HH.out);have HQ:=hid (show dQ d aQ true=0∧xI d aQ=j.syncD d by
     obtain ⟨f,hf⟩:=HC.out.loose hl;have:=HC.out.fine.sy (n:=aQ) (by decide) hf;exact ⟨this.1,by rw [this.2];unfold Jn.syncD;rw [if_pos hl]⟩)
    rw [HQ.out.1,HQ.out.2] at HSY;unfold cZ at HSY;have hl2:(0:Int)<(j.loose:Int):=by omega
    have hl3:((j.loose:Int) == 0)=false:=by simp;omega
    rcases Nat.eq_zero_or_pos j.feet with hf | hf
    ·have hf2:(j.feet:Int)=0:=by omega
     rw [hf2] at c5;clear hf hf2;go_wp2_with fail;refine HSY.out.mono ?_;rintro e w1 ⟨rfl,hr⟩;have HR:=hid hr;clear hr;go_wp2_with fail;go_meet
     case rel=>exact HR.out
    ·have hf2:(0:Int)<(j.feet:Int):=by omega
     go_wp2_with fail;refine HSY.out.mono ?_;rintro e w1 ⟨rfl,hr⟩;have HR:=hid hr;clear hr;go_wp2_with fail;go_meet
     case rel=>exact HR.out
   ·have hf2:(j.feet:Int)=0:=by have:=HFT.out;omega
    have hl2:(j.loose:Int)=0:=by omega
    have HQ:=hid (show j.syncD d=d by unfold Jn.syncD;rw [if_neg hl]);rw [hf2] at c5;rw [hl2] at c4;clear hf2 hl2 hl;go_wp2_with fail;go_meet
    case rel=>exact ⟨L,rfl,by rw [HQ.out];exact HH.out,fun k hk=>.inl hk,Ch.refl _ _⟩
  case rest=>
   obtain ⟨L1,hg1,hd1,hF1,hc1⟩:=hcut;have HJ1:=hid (HJ.out.ch hc1 h1 h2);have hgj:=ab HJ.out.blk;have hgn:=HJ.out.map.lt;have hx1:¬ L1.F gj:=fun e=>(hF1 _ e).elim h1 (by omega)
   have hx2:¬ L1.F gn:=fun e=>(hF1 _ e).elim h2 (by omega)
   have HX:=hid (And.intro hx1 hx2);have HLY:=hid (fun (w':World) (h:DkIs w' L1 (j.syncD d)∧JnIs w' L.gd gj gn j)=>show Calls Tryz.prog 202 #[.pointer (some ⟨gj,0,none⟩),.agg #[.int .i64 3,.int .i64 j.loose,.int .u64 0,.string (aj (bB j.pages j.feet))]] w' fun e w''=>e=.returned (.int .i64 0)∧DkTo w' L1 ((j.syncD d).wr aQ ((j.syncD d).len aQ) (aI 3 j.loose j.salt (bB j.pages j.feet))) w'' from qx j 3 j.loose (bB j.pages j.feet) w' h.1 (by rw [hg1];exact h.2) HFS.out.1 HFS.out.2 (by decide) (by have:=j0.loose;omega) (eY _ _));obtain ⟨c0,c1,c2,c3,c4,c5,cl,cf⟩:=fO HJ1.out.blk;have HK0:=hid (And.intro hd1 HJ1.out);have HG1:=hid hg1;have HF1:=hid hF1;have HC1:=hid hc1;clear hg1 hd1 hF1 hc1 cf hx1 hx2;go_upto_region 9 with fail
   go_region_held3 (fun w'=>w'.cell? ⟨gj,4,none⟩=some (.int .i64 j.loose)∧w'.cell? ⟨gj,1,none⟩=some (.int .i64 j.pages)∧w'.cell? ⟨gj,5,none⟩=some (.int .i64 j.feet)) (first | exact ⟨f4,f1,f5⟩ | exact ⟨d4,d1,d5⟩ | exact ⟨c4,c1,c5⟩)
    (first
     | (go_at_call 223;(with_reducible refine (HF.out _).mono ?_);rintro e w5 ⟨rfl,hb5⟩;have HB5:=hid (show Below wc.heap.size wc w5 from ((Below.refl wc.heap.size wc).drew).trans hb5);clear hb5;obtain ⟨d0,d1,d2,d3,d4,d5,dl,df⟩:=fO (HK0.out.2.ch (Ch.of_below (S:=fun _=>False) HB5.out) (fun h=>h) (fun h=>h)).blk;clear df)
     | (go_at_call 202;(with_reducible refine (HLY.out _ ?ba).mono ?_);(case ba=>exact ⟨HK0.out.1.ch (Ch.of_below (S:=fun _=>False) HB5.out) (fun _ _ h=>h),HK0.out.2.ch (Ch.of_below (S:=fun _=>False) HB5.out) (fun h=>h) (fun h=>h)⟩);rintro e w6 ⟨rfl,hr6⟩;have HR6:=hid (DkTo.pre (w:=wc) hr6 HB5.out);clear hr6;have HJ6:=hid (show JnIs w6 L.gd gj gn j from by
         obtain ⟨L6,-,-,-,hc6⟩:=HR6.out;exact HK0.out.2.ch hc6 HX.out.1 HX.out.2);obtain ⟨f0,f1,f2,f3,f4,f5,fl,ff⟩:=fO HJ6.out.blk;clear ff))
   obtain ⟨L6,l1,l2,l3,l4⟩:=HR6.out;have HQ:=hid (show dQ ((j.syncD d).wr aQ ((j.syncD d).len aQ) (aI 3 j.loose j.salt (bB j.pages j.feet))) aQ true=0∧xI ((j.syncD d).wr aQ ((j.syncD d).len aQ) (aI 3 j.loose j.salt (bB j.pages j.feet))) aQ=j.sealD d by
    have:=(HFS.out.1.wr (n:=aQ) (i:=(j.syncD d).len aQ) (s:=aI 3 j.loose j.salt (bB j.pages j.feet))).sy (n:=aQ) (by decide) (by rw [Dk.wr_file HK0.out.1.ok,if_pos rfl]);exact ⟨this.1,by rw [this.2,HE.out.1]⟩)
   have HSY:=hid (dJ aQ (by decide) w6 l2);rw [HQ.out.1,HQ.out.2,l1,HG1.out] at HSY;unfold cZ at HSY;have HL6:=hid (And.intro l1 (And.intro l3 l4));have HD6:=hid l2;clear l1 l2 l3 l4 c0 c1 c2 c3 c4 c5 d0 d1 d2 d3 d4 d5 cl dl;go_wp2_with fail;refine HSY.out.mono ?_;rintro e w7 ⟨rfl,L7,m1,m2,m3,m4⟩
   have hx6:∀ k,L6.F k→L.F k∨w.heap.size≤k:=fun k hk=>by
    rcases HL6.out.2.1 k hk with e | e
    ·exact HF1.out k e
    ·exact .inr (Nat.le_trans HC1.out.size e)
   have hs6:w.heap.size≤w6.heap.size:=Nat.le_trans HC1.out.size HL6.out.2.2.size
   have hx7:∀ k,L7.F k→L.F k∨w.heap.size≤k:=fun k hk=>by
    rcases m3 k hk with e | e
    ·exact hx6 k e
    ·exact .inr (by omega)
   have hc6:Ch L.F w w6:=HC1.out.then HL6.out.2.2 HF1.out;have hc7:Ch L.F w w7:=hc6.then m4 hx6;have n1:¬ L7.F gj:=fun e=>(hx7 _ e).elim h1 (by omega)
   have HJ7:=HJ.out.ch hc7 h1 h2;obtain ⟨g0,g1,g2,g3,g4,g5,gl,gf⟩:=fO HJ7.blk;have z4:=gf 4;have z5:=gf 5;have hwr:IntKind.i64.wrap ((j.feet:Int)+1)=((j.feet+1:Nat):Int):=by rw [IntWalk.i64_in _ (by have:=j0.feet;omega)];omega
   have hc8:Ch (fun k=>k=gj) w7 ((w7.setCell ⟨gj,5,none⟩ (.int .i64 ((j.feet+1:Nat):Int))).setCell ⟨gj,4,none⟩ (.int .i64 0)):=((Ch.refl (fun k=>k=gj) w7).setCell (p:=⟨gj,5,none⟩) rfl _).setCell (p:=⟨gj,4,none⟩) rfl _;have HFIN:=hid (show BM w L gj gn (j.sealD d) j.sealJ ((w7.setCell ⟨gj,5,none⟩ (.int .i64 ((j.feet+1:Nat):Int))).setCell ⟨gj,4,none⟩ (.int .i64 0)) from
    ⟨L7,m1,m2.ch hc8 (fun k hk e=>n1 (e ▸ hk)),by
      rw [HE.out.2];exact ⟨⟨j0.pages,j0.salt,Nat.zero_le _,HC.out.f1,j0.noted⟩,ae (ae HJ7.blk 5 (.int .i64 ((j.feet+1:Nat):Int))) 4 (.int .i64 0),HJ7.map.ch hc8 (fun e=>HJ7.ne e.symm),HJ7.ne⟩,hx7,(hc7.mono fun k _ e=>.inl e).trans (hc8.mono fun k _ e=>.inr (.inl e))⟩)
   clear m1 m2 m3 m4 hx6 hs6 hx7 hc6 hc7 n1 HJ7 gf hc8;go_wp2_with fail;go_ret;exact ⟨rfl,HFIN.out⟩
def Jn.has (j:Jn) (n:Nat):Bool:=(aC j.noted (n:Int)).getD false
def Jn.noteJ (j:Jn) (n:Nat):Jn:=if j.has n then j else { j with noted:=aX j.noted (n:Int) true,loose:=j.loose+1 }
def Jn.noteD (j:Jn) (d:Dk) (n:Nat) (s:By):Dk:=if j.has n then d else d.wr aQ (d.len aQ) (aI 2 n j.salt s)
structure CanNote (d:Dk) (j:Jn) (n:Nat):Prop where
 fine:d.Fine
 few:d.file aQ=none→d.files.length<8
 room:(d.total:Int)<d.room
 n:n<j.pages
 loose:j.loose<1000000
 noted:j.noted.length<1000000
theorem bD {n:Nat} (h:n<4294967296):gE n:=WalkArith.wf_i64 (by omega)
theorem jL (j:Jn) (n:Nat) (s:By) (w:World) {L:DkM} {d:Dk} {gj gn:Nat} (h:DkIs w L d) (hj:JnIs w L.gd gj gn j) (h1:¬ L.F gj) (h2:¬ L.F gn) (hc:CanNote d j n) (hs:s.length=232):
  Calls Tryz.prog 142 #[ai gj,.int .i64 n,.string (aj s)] w fun e w'=>e=.returned (.int .i64 0)∧BM w L gj gn (j.noteD d n s) (j.noteJ n) w':=by
 have HH:=hid h;have HJ:=hid hj;have j0:=hj.ok;have hn4:n<4096:=by have:=hc.n;have:=j0.pages;omega
 have hl:=hj.map.look Cc (a:=(n:Int)) (bD (by omega));rw [show qg BS (.bool false) (aC j.noted (n:Int))=.bool (j.has n) by unfold Jn.has;cases aC j.noted (n:Int) <;> rfl] at hl;obtain ⟨c0,c1,c2,c3,c4,c5,cl,cf⟩:=fO hj.blk;have hz:(aj s).size=232:=by rw [aw,hs]
 have hn1:(0:Int)≤(n:Int):=by omega
 have hn2:(n:Int)<(j.pages:Int):=by have:=hc.n;omega
 have HC:=hid hc;have HS:=hid hs;unfold ny at hl;clear h hj hc hs cf;unfold ai at *;cases hh:j.has n
 ·have HE:=hid (show j.noteD d n s=d.wr aQ (d.len aQ) (aI 2 n j.salt s)∧j.noteJ n={ j with noted:=aX j.noted (n:Int) true,loose:=j.loose+1 } from
   ⟨by unfold Jn.noteD;rw [hh];rfl,by unfold Jn.noteJ;rw [hh];rfl⟩)
  have HLY:=hid (show Calls Tryz.prog 202 #[.pointer (some ⟨gj,0,none⟩),.agg #[.int .i64 2,.int .i64 n,.int .u64 0,.string (aj s)]] w fun e w''=>e=.returned (.int .i64 0)∧DkTo w L (d.wr aQ (d.len aQ) (aI 2 n j.salt s)) w'' from
   qx j 2 n s w HH.out HJ.out HC.out.fine ⟨Nat.le_refl _,HC.out.few,fun _=>HC.out.room⟩ (by decide) (by omega) HS.out)
  rw [hh] at hl;go_enter Tryz.func142,Tryz.ntmps142;go_wp2_with fail;refine HLY.out.mono ?_;rintro e w1 ⟨rfl,L1,l1,l2,l3,l4⟩;have HJ1:=HJ.out.ch l4 h1 h2;have x1:¬ L1.F gj:=fun e=>(l3 _ e).elim h1 (by omega)
  have x2:¬ L1.F gn:=fun e=>(l3 _ e).elim h2 (by have:=HJ.out.map.lt;omega)
  obtain ⟨w2,hrun,hmp,hgr⟩:=HJ1.map.set Cc (a:=(n:Int)) (bD (by omega)) true (by have:=HC.out.noted;unfold maxLen;omega);have hc2:Ch (fun k=>k=gn) w1 w2:=Ch.of_grown hgr fun k hk=>by injection hk with hk;exact hk.symm
  have HB2:=hc2.keep HJ1.blk HJ1.ne;obtain ⟨g0,g1,g2,g3,g4,g5,gl,gf⟩:=fO HB2;have z4:=gf 4;have hwr:IntKind.i64.wrap ((j.loose:Int)+1)=((j.loose+1:Nat):Int):=by rw [IntWalk.i64_in _ (by have:=j0.loose;omega)];omega
  have hc3:Ch (fun k=>k=gj) w2 (w2.setCell ⟨gj,4,none⟩ (.int .i64 ((j.loose+1:Nat):Int))):=(Ch.refl (fun k=>k=gj) w2).setCell (p:=⟨gj,4,none⟩) rfl _;have HFIN:=hid (show BM w L gj gn (j.noteD d n s) (j.noteJ n) (w2.setCell ⟨gj,4,none⟩ (.int .i64 ((j.loose+1:Nat):Int))) from
   ⟨L1,l1,by rw [HE.out.1];exact (l2.ch hc2 (fun k hk e=>x2 (e ▸ hk))).ch hc3 (fun k hk e=>x1 (e ▸ hk)),by
     rw [HE.out.2];refine ⟨⟨j0.pages,j0.salt,HC.out.loose,j0.feet,Nat.le_trans eR HC.out.noted⟩,ae HB2 4 (.int .i64 ((j.loose+1:Nat):Int)),hmp.ch hc3 (fun e=>HJ1.ne e.symm),HJ1.ne⟩,l3,((l4.mono fun k _ e=>.inl e).trans (hc2.mono fun k _ e=>.inr (.inr e))).trans (hc3.mono fun k _ e=>.inr (.inl e))⟩)
  obtain ⟨d0,d1,d2,d3,d4,d5,dl,-⟩:=fO HJ1.blk;unfold ny BS at hrun;clear l1 l2 l3 l4 HJ1 x1 x2 hmp hgr hc2 HB2 gf hc3 hl;go_wp2_with fail;go_ret;exact ⟨rfl,HFIN.out⟩
 ·have HE:=hid (show j.noteD d n s=d∧j.noteJ n=j from ⟨by unfold Jn.noteD;rw [hh];rfl,by unfold Jn.noteJ;rw [hh];rfl⟩);rw [hh] at hl;go_enter Tryz.func142,Tryz.ntmps142;go_wp2_with fail;go_ret;exact ⟨rfl,L,rfl,by rw [HE.out.1];exact HH.out,by rw [HE.out.2];exact HJ.out,fun k hk=>.inl hk,Ch.refl _ _⟩
structure Fr where
 page:Nat
 sum:Nat
 com:Bool
def tz (f:Fr):List Value:=[.int .i64 f.page,.int .u64 f.sum,.bool f.com]
theorem fK (f:Fr):(tz f).length=3:=rfl
def topB:By:=aI 4 1 0 (List.replicate 232 0)
def bA (l:List Fr):List (Int × Int):=l.zipIdx.foldl (fun K p=>aX K (p.1.page:Int) (p.2:Int)) []
theorem ir (l:List Fr) (f:Fr):bA (l ++ [f])=aX (bA l) (f.page:Int) (l.length:Int):=by unfold bA;rw [List.zipIdx_append,List.foldl_append];simp
theorem lH:∀ (l:List Fr) (n:Nat) (K:List (Int × Int)),((l.zipIdx n).foldl (fun K p=>aX K (p.1.page:Int) (p.2:Int)) K).length≤K.length+l.length
 | [],_,_=>Nat.le_refl _
 | f :: l,n,K=>by
   rw [List.zipIdx_cons,List.foldl_cons,List.length_cons];refine Nat.le_trans (lH l (n+1) _) ?_;have:=eR (K:=K) (a:=(f.page:Int)) (b:=(n:Int));simp only;omega
theorem dE (l:List Fr):(bA l).length≤l.length:=by have:=lH l 0 [];simpa [bA] using this
def BB (v:Value):Option (DataW Unit × List MemPlace):=match v with
 | .int .i64 n=>some (.lit (.int .i64 n),[])
 | _=>none
def BR (n:Int):DataW Unit:=.lit (.int .i64 n)
theorem qy {v:Value} {n:Int} {ps:List MemPlace} (h:BB v=some (.lit (.int .i64 n),ps)):v=.int .i64 n:=by
 unfold BB at h
 split at h
 ·simp only [Option.some.injEq,Prod.mk.injEq,DataW.lit.injEq,Lit.int.injEq,true_and] at h;rw [h.1]
 ·cases h
theorem zy:MpT gE 195 3 3 cq ny BR ny (.int .i64 0) BB where
 law:=bY
 und:=Tryz.underlying195
 key:=fun _ h=>dY h
 inj:=fun a b h=>by injection h
 lit:=fun _=>trivial
 rel:=fun b=>rfl
 inv:=fun v b ps h=>qy h
 zero:=fun w=>by kernel_rfl
 zrel:=⟨BR 0,rfl,fun v ps h=>qy h⟩
abbrev qV (w:World) (gm:Nat) (K:List (Int × Int)):Prop:=MpIs 3 BB cq BR w gm K
structure LgM where
 gl:Nat
 gm:Nat
 vf:Value
def uz (gd:Nat) (M:LgM):Obj:=.cells #[ai gd,M.vf,.map (some M.gm)] 197 (0,0)
structure FrOk (l:List Fr):Prop where
 n:l.length≤20000
 f:∀ x ∈ l,x.page<4096∧x.sum<18446744073709551616
structure LgIs (w:World) (gd:Nat) (M:LgM) (l:List Fr):Prop where
 ok:FrOk l
 blk:w.heap[M.gl]?=some (uz gd M)
 row:Own tz 3 214 0 w M.vf l
 map:qV w M.gm (bA l)
 n1:M.gl≠M.gm
 n2:M.vf.ownBlock≠some M.gl
 n3:M.vf.ownBlock≠some M.gm
def iA (M:LgM) (k:Nat):Prop:=k=M.gl∨k=M.gm∨M.vf.ownBlock=some k
theorem LgIs.ch {S:Nat→Prop} {w w':World} {gd:Nat} {M:LgM} {l:List Fr} (h:LgIs w gd M l) (hc:Ch S w w') (hn:∀ k,iA M k→¬ S k):LgIs w' gd M l:=
 ⟨h.ok,hc.keep h.blk (hn _ (.inl rfl)),h.row.ch hc fun k hk=>hn k (.inr (.inr hk)),h.map.ch hc (hn _ (.inr (.inl rfl))),h.n1,h.n2,h.n3⟩
theorem LgIs.below {w w':World} {gd:Nat} {M:LgM} {l:List Fr} (h:LgIs w gd M l) (hb:Below w.heap.size w w'):LgIs w' gd M l:=h.ch (S:=fun _=>False) (Ch.of_below hb) fun _ _ h=>h
theorem LgIs.lt {w:World} {gd:Nat} {M:LgM} {l:List Fr} (h:LgIs w gd M l) {k:Nat} (hk:iA M k):k<w.heap.size:=by
 rcases hk with rfl | rfl | hk
 ·exact ab h.blk
 ·exact h.map.lt
 ·exact (h.row.lt k hk).2
theorem br {w:World} {gd:Nat} {M:LgM} (hb:w.heap[M.gl]?=some (uz gd M)):w.cell? ⟨M.gl,0,none⟩=some (ai gd)∧w.cell? ⟨M.gl,1,none⟩=some M.vf∧w.cell? ⟨M.gl,2,none⟩=some (.map (some M.gm))∧M.gl<w.heap.size∧∀ k,w.frozen? ⟨M.gl,k,none⟩=false:=
 ⟨aa hb 0,aa hb 1,aa hb 2,ab hb,ah hb⟩
theorem kG:topB.length=256:=bw List.length_replicate
theorem qo (w:World):Calls Tryz.prog 224 #[] w fun e w'=>e=.returned (.string (aj topB))∧Below w.heap.size w w':=by have HR:=hid (fun (w:World)=>dL 232 w (by decide));have HC:=hid (fun w=>show Calls Tryz.prog 209 #[cN 4 1 0 (aj (List.replicate 232 0))] w fun e w'=>e=.returned (.tuple #[.string (aj topB),.int .i64 0])∧Below w.heap.size w w' from fh 4 1 0 (List.replicate 232 0) w (by decide) (by decide) (by decide) List.length_replicate);unfold cN at HC;generalize aj topB=tp at *;go_enter Tryz.func224,Tryz.ntmps224;go_wp2_with fail;refine (HR.out w).mono ?_;rintro e w1 ⟨rfl,hb⟩;have HB:=hid hb;clear hb;go_wp2_with fail;refine (HC.out w1).mono ?_;rintro e w2 ⟨rfl,hb⟩;have HB2:=hid (HB.out.trans (hb.mono HB.out.size));clear hb;go_wp2_with fail;go_ret;exact ⟨rfl,HB2.out⟩
def mu (l:List Fr):Nat:=match l.getLast? with
 | none=>cb topB
 | some f=>f.sum
theorem vD:mu []=cb topB:=rfl
theorem tT (l:List Fr) (f:Fr):mu (l ++ [f])=f.sum:=by unfold mu;rw [List.getLast?_append];simp
theorem qe {w:World} {v:Value} {l:List Fr} (h:Own tz 3 214 0 w v l) {i:Nat} (hi:i<l.length):∃ b c,v=.slice (some ⟨b,0,none⟩) l.length c∧l.length≤c∧b<w.heap.size∧w.cell? ⟨b,i * 3,none⟩=some (.int .i64 l[i].page)∧w.cell? ⟨b,i * 3+1,none⟩=some (.int .u64 l[i].sum)∧w.cell? ⟨b,i * 3+2,none⟩=some (.bool l[i].com)∧∀ k,w.frozen? ⟨b,k,none⟩=false:=by
 obtain ⟨A,c,hv,hc⟩:=aD h;rcases h.2 with ⟨hv2,h0⟩ | ⟨g,cap,cur,hv2,hb,hg,-⟩
 ·omega
 ·rw [hv] at hv2;injection hv2 with e1 e2 e3
  obtain ⟨b',off,c',he,-,hcc⟩:=(h.sl fK).at1 hi;rw [hv,e1] at he;injection he with e4 _ _
  injection e4 with e4
  injection e4 with e4 e5 _
  subst e4 e5;refine ⟨g,c,by rw [hv,e1],hc,ab hg,?_,?_,?_,ah hg⟩
  ·have:=hcc 0 _ rfl;simpa using this
  ·have:=hcc 1 _ rfl;simpa using this
  ·have:=hcc 2 _ rfl;simpa using this
end Go.Proofs.YtdmhbgpejppbkaaGreat
namespace Go.Proofs.YtdmhbgpejppbkaaGreat
open Go.RowKit Go.Maps
structure CaIs (w:World) (gc gr gm:Nat) (size:Int) (gs:List Nat) (E:Nat→En):Prop where
 bc:w.heap[gc]?=some (.cells #[.int .i64 size,.pointer (some ⟨gr,0,none⟩),.map (some gm)] 126 (0,0))
 mem:MemE (fun g=>g ∈ gr :: gs) w E
 seg:Seg E gr gs gr
 nd:(gc :: gm :: gr :: gs).Nodup
 map:MapIs w gm (gs.map fun g=>((E g).n,g))
 wf:∀ g ∈ gs,gE (E g).n
section
variable {w w':World} {gc gr gm:Nat} {size:Int} {gs:List Nat} {E:Nat→En}
theorem CaIs.cell (h:CaIs w gc gr gm size gs E) (i:Nat):w.cell? ⟨gc,i,none⟩=(#[.int .i64 size,.pointer (some ⟨gr,0,none⟩),.map (some gm)]:Array Value)[i]?:=by simp [World.cell?,h.bc]
theorem CaIs.ch {S:Nat→Prop} (h:CaIs w gc gr gm size gs E) (hc:Ch S w w') (hd:∀ g,g ∈ gc :: gm :: gr :: gs→¬ S g):CaIs w' gc gr gm size gs E:=
 ⟨hc.keep h.bc (hd gc (by simp)),h.mem.ch hc (fun g hg=>hd g (by simp only [List.mem_cons] at hg ⊢;exact .inr (.inr hg))),h.seg,h.nd,h.map.ch hc (hd gm (by simp)),h.wf⟩
theorem wI {n:Int} {b:Nat} (hg:b ∈ gs) (hn:(E b).n=n):(n,b) ∈ gs.map (fun g=>((E g).n,g)):=List.mem_map.2 ⟨b,hg,by rw [hn]⟩
theorem tv {n:Int} (h:∀ g ∈ gs,(E g).n≠n):n ∉ (gs.map (fun g=>((E g).n,g))).map (·.1):=by rw [List.map_map];intro hm;obtain ⟨g,hg,e⟩:=List.mem_map.1 hm;exact h g hg e
theorem CaIs.key_inj (h:CaIs w gc gr gm size gs E) {a b:Nat} (ha:a ∈ gs) (hb:b ∈ gs) (he:(E a).n=(E b).n):a=b:=by
 have hnd:=h.map.nd;rw [List.map_map] at hnd;clear h
 induction gs with
 | nil=>cases ha
 | cons g gs ih=>
   rw [List.map_cons,List.nodup_cons] at hnd;rcases List.mem_cons.1 ha with ea | ha1 <;> rcases List.mem_cons.1 hb with eb | hb1
   ·rw [ea,eb]
   ·subst ea;exact (hnd.1 (List.mem_map.2 ⟨b,hb1,he.symm⟩)).elim
   ·subst eb;exact (hnd.1 (List.mem_map.2 ⟨a,ha1,he⟩)).elim
   ·exact ih ha1 hb1 hnd.2
end
theorem jO {gc gr gm:Nat} {size:Int} {gs:List Nat} {E:Nat→En} (n:Int) (b:Nat) (w:World) (h:CaIs w gc gr gm size gs E) (hb:b ∈ gs) (hn:(E b).n=n):
  Calls Tryz.prog 174 #[.pointer (some ⟨gc,0,none⟩),.int .i64 n] w fun e w'=>e=.returned (.pointer (some ⟨b,0,none⟩))∧w=w':=by
 have c2:=h.cell 2;have hrun:=h.map.look_yes (n:=n) (b:=b) (hn ▸ h.wf b hb) (wI hb hn);clear h hb hn;go_enter Tryz.func174,Tryz.ntmps174;go_wp2;go_ret;exact ⟨rfl,rfl⟩
theorem lR {gc gr gm:Nat} {size:Int} {gs:List Nat} {E:Nat→En} (n:Int) (w:World) (h:CaIs w gc gr gm size gs E) (hw:gE n) (hn:∀ g ∈ gs,(E g).n≠n):
  Calls Tryz.prog 174 #[.pointer (some ⟨gc,0,none⟩),.int .i64 n] w fun e w'=>e=.returned (.pointer none)∧w=w':=by
 have c2:=h.cell 2;have hrun:=h.map.look_no (n:=n) hw (tv hn);clear h hn hw;go_enter Tryz.func174,Tryz.ntmps174;go_wp2;go_ret;exact ⟨rfl,rfl⟩
end Go.Proofs.YtdmhbgpejppbkaaGreat
namespace Go.Proofs.YtdmhbgpejppbkaaGreat
open Go.Lib (hid)
open Go.RowKit Go.Maps
def val (e:En):Int × ByteArray × Bool:=(e.n,e.s,e.d)
theorem kC (E:Nat→En) (g v k:Nat):val (setx E g v k)=val (E k):=by unfold val setx;split <;> rfl
theorem kD (E:Nat→En) (g v k:Nat):val (seto E g v k)=val (E k):=by unfold val seto;split <;> rfl
def gX (E:Nat→En) (g:Nat):Nat→En:=seto (setx E (E g).o (E g).x) (E g).x (E g).o
def gW (E:Nat→En) (g r:Nat):Nat→En:=seto (setx (setx (seto E g (E r).o) g r) (E r).o g) r g
theorem da (E:Nat→En) (g k:Nat):val (gX E g k)=val (E k):=by unfold gX;rw [kD,kC]
theorem eO (E:Nat→En) (g r k:Nat):val (gW E g r k)=val (E k):=by unfold gW;rw [kD,kC,kC,kD]
theorem lc {a b:En} (h:val a=val b):a.n=b.n:=congrArg (·.1) h
section
variable {w w':World} {gc gr gm g:Nat} {size:Int} {gs xs ys:List Nat} {E:Nat→En}
theorem CaIs.nd' (h:CaIs w gc gr gm size gs E):(gr :: gs).Nodup∧gc ∉ gr :: gs∧gm ∉ gr :: gs∧gc≠gm:=by have:=h.nd;rw [List.nodup_cons,List.nodup_cons] at this;exact ⟨this.2.2,fun hm=>this.1 (List.mem_cons_of_mem _ hm),this.2.1,fun e=>this.1 (by simp [e])⟩
theorem CaIs.nbr (h:CaIs w gc gr gm size (xs ++ g :: ys) E):(E g).o ∈ gr :: xs∧(E g).x ∈ ys ++ [gr]:=by have hsp:=h.seg.split;exact ⟨by rw [hsp.1.last];exact List.getLast_mem _,by rw [hsp.2.first];exact List.head_mem _⟩
theorem CaIs.nbr' (h:CaIs w gc gr gm size (xs ++ g :: ys) E):(E g).o ∈ gr :: (xs ++ g :: ys)∧(E g).x ∈ gr :: (xs ++ g :: ys):=by
 obtain ⟨h1,h2⟩:=h.nbr;refine ⟨?_,?_⟩
 ·rcases List.mem_cons.1 h1 with e | e <;> simp [e]
 ·rcases List.mem_append.1 h2 with e | e
  ·simp [e]
  ·simp at e;simp [e]
theorem CaIs.seg_out (h:CaIs w gc gr gm size (xs ++ g :: ys) E):Seg (gX E g) gr (xs ++ ys) gr:=by have hn:=h.nd'.1;have hn2:=(List.nodup_cons.1 hn).1;simp only [List.mem_append,List.mem_cons,not_or] at hn2;exact Seg.out hn2.2.2 (fun e=>hn2.2.1 e.symm) h.seg hn hn2.1
theorem MapIs.perm {K K':List (Int × Nat)} (h:MapIs w gm K) (hp:K'.Perm K):MapIs w gm K':=by obtain ⟨D,hown,hm⟩:=h;refine ⟨D,by rw [hp.length_eq];exact hown,⟨hm.tidy,((hp.map _).nodup_iff).2 hm.nd,fun p hp'=>hm.yes p (hp.mem_iff.1 hp'),fun n hn=>hm.no n fun hh=>hn (((hp.map _).mem_iff).2 hh),by rw [hm.size,hp.length_eq]⟩⟩
theorem sR {n:Nat} (hs:Seg E gr gs gr) (hnd:(gr :: gs).Nodup) (hg:n ∉ gr :: gs):Seg (gW E n gr) gr (gs ++ [n]) gr:=
 Seg.use (fun e=>hg (by simp [e])) hs hnd (List.nodup_cons.1 hnd).1 hg
theorem CaIs.nd_out (h:CaIs w gc gr gm size (xs ++ g :: ys) E):(gc :: gm :: gr :: (xs ++ ys)).Nodup∧g ∉ gc :: gm :: gr :: (xs ++ ys):=by
 have hp:(gc :: gm :: gr :: (xs ++ g :: ys)).Perm (g :: gc :: gm :: gr :: (xs ++ ys)):=by refine (List.Perm.cons _ ((List.Perm.cons _ ((List.Perm.cons _ (List.perm_middle)).trans (List.Perm.swap ..))).trans (List.Perm.swap ..))).trans (List.Perm.swap ..)
 have:=hp.nodup_iff.1 h.nd;rw [List.nodup_cons] at this;exact ⟨this.2,this.1⟩
end
theorem lS {gc gr gm g:Nat} {size:Int} {xs ys:List Nat} {E:Nat→En} (n:Int) (w:World) (h:CaIs w gc gr gm size (xs ++ g :: ys) E) (hn:(E g).n=n):
  Calls Tryz.prog 115 #[.pointer (some ⟨gc,0,none⟩),.int .i64 n] w fun e w'=>e=.returned (.tuple #[])∧CaIs w' gc gr gm size (xs ++ ys) (gX E g)∧
   w'.heap[g]?=w.heap[g]?∧Ch (fun k=>k ∈ gm :: gr :: (xs ++ ys)) w w':=by
 subst hn;have hgm:g ∈ xs ++ g :: ys:=by simp
 have HF:=hid (jO (E g).n g w h hgm rfl);have HO:=hid (tc _ E g w h.mem (List.mem_cons_of_mem _ hgm) h.nbr'.1 h.nbr'.2);have H:=hid h;clear h;go_enter Tryz.func115,Tryz.ntmps115;go_wp2_with fail;refine HF.out.mono ?_;rintro e w' ⟨rfl,rfl⟩;go_wp2_with fail;refine HO.out.mono ?_;rintro e w1 ⟨rfl,hm1,hc1⟩;have HM1:=hid hm1;have HC1:=hid hc1;have hno:∀ k,k=(E g).o∨k=(E g).x→k ∈ gr :: (xs ++ ys):=by
  obtain ⟨h1,h2⟩:=H.out.nbr;rintro k (rfl | rfl)
  ·rcases List.mem_cons.1 h1 with e | e <;> simp [e]
  ·rcases List.mem_append.1 h2 with e | e
   ·simp [e]
   ·simp at e;simp [e]
 obtain ⟨hnd1,hnd2⟩:=H.out.nd_out;have hgc:∀ k ∈ gm :: gr :: (xs ++ ys),gc≠k:=fun k hk e=>(List.nodup_cons.1 hnd1).1 (e ▸ hk)
 have hgmn:gm ∉ gr :: (xs ++ ys):=(List.nodup_cons.1 (List.nodup_cons.1 hnd1).2).1;have hb1:=HC1.out.keep H.out.bc (fun hk=>hgc gc (List.mem_cons_of_mem _ (hno _ hk)) rfl);have hmap1:MapIs w1 gm ((xs ++ g :: ys).map fun k=>((E k).n,k)):=H.out.map.ch HC1.out (fun hk=>hgmn (hno _ hk));rw [List.map_append,List.map_cons] at hmap1;obtain ⟨w2,hrun,hmap2,hg2⟩:=hmap1.del (H.out.wf g hgm) 0;have HMAP:=hid hmap2;have HG:=hid hg2;have HB1:=hid hb1;have HNO:=hid hno;have HND:=hid hnd1;have HND2:=hid hnd2;have HGC:=hid hgc;have HGMN:=hid hgmn;have c2:w1.cell? ⟨gc,2,none⟩=some (.map (some gm)):=by simp [World.cell?,hb1]
 clear hm1 hc1 hno hnd1 hnd2 hgc hgmn hb1 hmap1 hmap2 hg2 hgm;go_wp2_with fail;go_end0;have hcg:=Ch.of_grown (S:=fun k=>k ∈ gm :: gr :: (xs ++ ys)) HG.out (fun k e=>by cases e;simp);have hcm:=Ch.of_grown (S:=fun k=>k=gm) HG.out (fun k e=>by cases e;rfl);have hout:=HC1.out.mono (S':=fun k=>k ∈ gm :: gr :: (xs ++ ys)) (fun k _ hk=>List.mem_cons_of_mem _ (HNO.out k hk));have hgn:∀ k ∈ gm :: gr :: (xs ++ ys),g≠k:=fun k hk e=>HND2.out (e ▸ List.mem_cons_of_mem _ hk)
 refine ⟨rfl,⟨hcm.keep HB1.out (fun e=>HGC.out gm (by simp) e),?_,H.out.seg_out,HND.out,?_,fun k hk=>?_⟩,?_,hout.trans hcg⟩
 ·intro k hk;refine hcm.keep (HM1.out k ?_) (fun e=>HGMN.out (e ▸ hk));simp only [List.mem_cons,List.mem_append] at hk ⊢;rcases hk with hk | hk | hk <;> simp [hk]
 ·rw [List.map_congr_left (g:=fun k=>((E k).n,k)) (fun k _=>by rw [lc (da E g k)]),List.map_append];exact HMAP.out
 ·rw [lc (da E g k)];exact H.out.wf k (by rcases List.mem_append.1 hk with hk | hk <;> simp [hk])
 ·have hlt:=aO (H.out.mem g (by simp));rw [hcg.block g (Nat.lt_of_lt_of_le hlt hout.size) (fun hk=>hgn g hk rfl),hout.block g hlt (fun hk=>hgn g hk rfl)]
theorem uO {gc gr gm:Nat} {size:Int} {gs:List Nat} {E:Nat→En} (n:Int) (w:World) (h:CaIs w gc gr gm size gs E) (hw:gE n) (hn:∀ g ∈ gs,(E g).n≠n):
  Calls Tryz.prog 115 #[.pointer (some ⟨gc,0,none⟩),.int .i64 n] w fun e w'=>e=.returned (.tuple #[])∧w=w':=by
 have HF:=hid (lR n w h hw hn);clear h hn;go_enter Tryz.func115,Tryz.ntmps115;go_wp2_with fail;refine HF.out.mono ?_;rintro e w' ⟨rfl,rfl⟩;go_wp2_with fail;go_end0;exact ⟨rfl,rfl⟩
theorem vg {gc gr gm g:Nat} {size:Int} {gs:List Nat} {E:Nat→En} (n:Int) (w:World) (h:CaIs w gc gr gm size gs E) (hg:g ∈ gs) (hn:(E g).n=n):
  Calls Tryz.prog 114 #[.pointer (some ⟨gc,0,none⟩),.int .i64 n] w fun e w'=>e=.returned (.tuple #[])∧CaIs w' gc gr gm size gs (setd E g false)∧Ch (fun k=>k=g) w w':=by
 subst hn;have HF:=hid (jO (E g).n g w h hg rfl);have H:=hid h;have hg':g ∈ gr :: gs:=List.mem_cons_of_mem _ hg;have HG:=hid hg';have c2:=h.mem.cell hg' 2;have f2:=h.mem.frozen hg' 2;clear h hg hg';go_enter Tryz.func114,Tryz.ntmps114;go_wp2_with fail;refine HF.out.mono ?_;rintro e w' ⟨rfl,rfl⟩;go_wp2_with fail;go_end0;have hc:=(Ch.refl (fun k=>k=g) w).setCell (p:=⟨g,2,none⟩) rfl (.bool false);have hv:∀ k,(setd E g false k).n=(E k).n∧(setd E g false k).o=(E k).o∧(setd E g false k).x=(E k).x:=fun k=>by unfold setd;split <;> exact ⟨rfl,rfl,rfl⟩
 obtain ⟨n1,n2,n3,n4⟩:=H.out.nd';refine ⟨rfl,⟨hc.keep H.out.bc (fun e=>n2 (e ▸ HG.out)),H.out.mem.setd HG.out _,H.out.seg.congr (fun k _=>(hv k).2.2) (fun k _=>(hv k).2.1),H.out.nd,?_,fun k hk=>by rw [(hv k).1];exact H.out.wf k hk⟩,hc⟩;rw [List.map_congr_left (g:=fun k=>((E k).n,k)) (fun k _=>by rw [(hv k).1])];exact H.out.map.ch hc (fun e=>n3 (e ▸ HG.out))
theorem xq {gc gr gm:Nat} {size:Int} {gs:List Nat} {E:Nat→En} (n:Int) (w:World) (h:CaIs w gc gr gm size gs E) (hw:gE n) (hn:∀ g ∈ gs,(E g).n≠n):
  Calls Tryz.prog 114 #[.pointer (some ⟨gc,0,none⟩),.int .i64 n] w fun e w'=>e=.returned (.tuple #[])∧w=w':=by
 have HF:=hid (lR n w h hw hn);clear h hn;go_enter Tryz.func114,Tryz.ntmps114;go_wp2_with fail;refine HF.out.mono ?_;rintro e w' ⟨rfl,rfl⟩;go_wp2_with fail;go_end0;exact ⟨rfl,rfl⟩
theorem yJ {gc gr gm g:Nat} {size:Int} {xs ys:List Nat} {E:Nat→En} (n:Int) (w:World) (h:CaIs w gc gr gm size (xs ++ g :: ys) E) (hn:(E g).n=n):
  Calls Tryz.prog 121 #[.pointer (some ⟨gc,0,none⟩),.int .i64 n] w fun e w'=>e=.returned (.tuple #[.string (E g).s,.bool true])∧CaIs w' gc gr gm size (xs ++ ys ++ [g]) (gW (gX E g) g gr)∧
   Ch (fun k=>k ∈ gr :: (xs ++ g :: ys)) w w':=by
 subst hn;have hgm:g ∈ xs ++ g :: ys:=by simp
 have HF:=hid (jO (E g).n g w h hgm rfl);have HO:=hid (tc _ E g w h.mem (List.mem_cons_of_mem _ hgm) h.nbr'.1 h.nbr'.2);have H:=hid h;clear h;go_enter Tryz.func121,Tryz.ntmps121;go_wp2_with fail;refine HF.out.mono ?_;rintro e w' ⟨rfl,rfl⟩;go_wp2_with fail;refine HO.out.mono ?_;rintro e w1 ⟨rfl,hm1,hc1⟩;have HM1:=hid (show MemE (fun k=>k ∈ gr :: (xs ++ g :: ys)) w1 (gX E g) from hm1);have hno:∀ k,k=(E g).o∨k=(E g).x→k ∈ gr :: (xs ++ g :: ys):=by
  rintro k (rfl | rfl)
  ·exact H.out.nbr'.1
  ·exact H.out.nbr'.2
 have HC1:=hid (hc1.mono (S':=fun k=>k ∈ gr :: (xs ++ g :: ys)) (fun k _ hk=>hno k hk));clear hm1 hc1 hno;obtain ⟨hnd1,hnd2⟩:=H.out.nd_out;obtain ⟨n1,n2,n3,n4⟩:=H.out.nd';have HND:=hid hnd1;have HND2:=hid hnd2;have HN2:=hid n2;have HN3:=hid n3;have hb1:=HC1.out.keep H.out.bc HN2.out;have HB1:=hid hb1;have c1:w1.cell? ⟨gc,1,none⟩=some (.pointer (some ⟨gr,0,none⟩)):=by simp [World.cell?,hb1]
 have hseg:=H.out.seg_out;have hgs:g ∉ gr :: (xs ++ ys):=fun hk=>hnd2 (List.mem_cons_of_mem _ (List.mem_cons_of_mem _ hk))
 have hndr:(gr :: (xs ++ ys)).Nodup:=(List.nodup_cons.1 (List.nodup_cons.1 hnd1).2).2;have hlast:=hseg.last;have hlm:(gX E g gr).o ∈ gr :: (xs ++ ys):=by rw [hlast];exact List.getLast_mem _
 have hsub:∀ k ∈ gr :: (xs ++ ys),k ∈ gr :: (xs ++ g :: ys):=fun k hk=>by
  simp only [List.mem_cons,List.mem_append] at hk ⊢;rcases hk with hk | hk | hk <;> simp [hk]
 have HU:=hid (xS _ (gX E g) gc g gr w1 HM1.out c1 (List.mem_cons_of_mem _ hgm) (by simp) (hsub _ hlm) (fun e=>hgs (e ▸ hlm)) (fun e=>hgs (by simp [e])));have HSEG:=hid (sR hseg hndr hgs);have HLM:=hid (hsub _ hlm);clear hlast hlm hsub hseg hgs hndr hnd1 hnd2 n1 n2 n3 n4 hb1 c1;go_wp2_with fail;refine HU.out.mono ?_;rintro e w2 ⟨rfl,hm2,hc2⟩;have HM2:=hid (show MemE (fun k=>k ∈ gr :: (xs ++ g :: ys)) w2 (gW (gX E g) g gr) from hm2)
 have HC2:=hid (hc2.mono (S':=fun k=>k ∈ gr :: (xs ++ g :: ys)) (fun k _ hk=>by
  rcases hk with rfl | rfl | rfl
  ·exact List.mem_cons_of_mem _ hgm
  ·exact HLM.out
  ·simp))
 have hv:=eO (gX E g) g gr g;rw [da] at hv;have e1:=HM2.out.cell (g:=g) (List.mem_cons_of_mem _ hgm) 1;rw [show (gW (gX E g) g gr g).s=(E g).s from congrArg (·.2.1) hv] at e1;clear hm2 hc2 hv hgm;go_wp2_with fail;go_ret2;have hc:=HC1.out.trans HC2.out;have hn:∀ k,(gW (gX E g) g gr k).n=(E k).n:=fun k=>lc ((eO _ _ _ _).trans (da _ _ _))
 have hp:(xs ++ ys ++ [g]).Perm (xs ++ g :: ys):=by rw [List.append_assoc];exact List.Perm.append_left _ (List.perm_append_singleton ..)
 refine ⟨rfl,⟨HC2.out.keep HB1.out HN2.out,fun k hk=>HM2.out k ?_,HSEG.out,?_,?_,fun k hk=>?_⟩,hc⟩
 ·rcases List.mem_cons.1 hk with hk | hk
  ·simp [hk]
  ·exact List.mem_cons_of_mem _ (hp.mem_iff.1 hk)
 ·exact ((List.Perm.cons _ (List.Perm.cons _ (List.Perm.cons _ hp))).nodup_iff).2 H.out.nd
 ·rw [List.map_congr_left (g:=fun k=>((E k).n,k)) (fun k _=>by rw [hn])];exact (H.out.map.ch hc HN3.out).perm (hp.map _)
 ·rw [hn];exact H.out.wf k (hp.mem_iff.1 hk)
theorem Ah {gc gr gm:Nat} {size:Int} {gs:List Nat} {E:Nat→En} (n:Int) (w:World) (h:CaIs w gc gr gm size gs E) (hw:gE n) (hn:∀ g ∈ gs,(E g).n≠n):
  Calls Tryz.prog 121 #[.pointer (some ⟨gc,0,none⟩),.int .i64 n] w fun e w'=>e=.returned (.tuple #[.string ⟨#[]⟩,.bool false])∧w=w':=by
 have HF:=hid (lR n w h hw hn);clear h hn;go_enter Tryz.func121,Tryz.ntmps121;go_wp2_with fail;refine HF.out.mono ?_;rintro e w' ⟨rfl,rfl⟩;go_wp2_with fail;go_ret2;exact ⟨rfl,rfl⟩
end Go.Proofs.YtdmhbgpejppbkaaGreat
