/- pager: change, with the journal and savepoints. pager: Put, Get as exact functions; behind a loss of power. pager: begin behind a loss of power; Get, Ready then. pager: Save. -/
import Derived.Test.YtdmhbgpejppbkaaGreatZGbj
import Derived.Test.YtdmhbgpejppbkaaGreatZGbf
import Derived.RangeFuncBox
import Derived.Maps.AppendAt
set_option maxRecDepth 100000
set_option maxHeartbeats 4000000
namespace Go.Proofs.YtdmhbgpejppbkaaGreat
open Go.Lib (hid)
open Go.RowKit Go.Maps
def Pgr.jot (P:Pgr) (n:Nat) (s:By):Pgr:=match P.note.notes with
 | none=>P.note
 | some j=>{ P.note with d:=j.noteD P.note.d n s,notes:=some (j.noteJ n) }
def ov (l:List Sv) (n:Nat) (s:By):List Sv:=match l[l.length - 1]? with
 | none=>l
 | some v=>l.set (l.length - 1) { v with im:=aV v.im (n:Int) s }
def Pgr.img (P:Pgr) (n:Nat) (s:By):Pgr:={ P with saves:=ov P.saves n s }
def Pgr.jotIf (P:Pgr) (b:Bool) (n:Nat) (s:By):Pgr:=if b then P.jot n s else P
def Pgr.imgIf (P:Pgr) (b:Bool) (n:Nat) (s:By):Pgr:=if b then P.img n s else P
def Pgr.keep (P:Pgr) (n:Nat) (s:By):Pgr:=if P.fj n || P.fs n then ((P.fetch n s).jotIf (P.fj n) n s).imgIf (P.fs n) n s else P
def Pgr.change (P:Pgr) (n:Nat) (old s:By):Pgr:=(P.keep n old).hold n s true
structure CanKeep (P:Pgr) (n:Nat) (s:By):Prop where
 fetch:(P.fj n || P.fs n)=true→CanFetch P n s
 j0:P.fj n=true→(P.fetch n s).notes=none→(P.fetch n s).d.file bg=none
 ch:P.fj n=true→(P.fetch n s).head.change+1<18446744073709551616
 note:P.fj n=true→∀ j,(P.fetch n s).note.notes=some j→CanNote (P.fetch n s).note.d j n
 im:P.fs n=true→∃ k v,((P.fetch n s).jotIf (P.fj n) n s).saves.length=k+1∧((P.fetch n s).jotIf (P.fj n) n s).saves[k]?=some v∧v.im.length<1000000
structure CanChange (P:Pgr) (n:Nat) (old s:By):Prop where
 keep:CanKeep P n old
 lt:n<4096
 gone:((P.keep n old).gone n s true).length≤1000
 spills:bw ((P.keep n old).putc n s true) ((P.keep n old).gone n s true)
theorem lk (l:List Sv) (n:Nat) (s:By):(ov l n s).length=l.length:=by
 unfold ov
 split
 ·rfl
 ·rw [List.length_set]
theorem SvIs.img {w w':World} {v:Value} {gs:List Nat} {l:List Sv} {k g:Nat} {s:Sv} {n:Nat} {x:By} (h:SvIs w v gs l) (hk:l.length=k+1) (hg:gs[k]?=some g) (hs:l[k]?=some s) (hc:Ch (fun j=>j=g) w w') (hm:fI w' g (aV s.im (n:Int) x)):SvIs w' v gs (ov l n x):=by
 have hgl:=h.len;have hgm:g ∈ gs:=List.mem_of_getElem? hg;have e:ov l n x=l.set k { s with im:=aV s.im (n:Int) x }:=by unfold ov;rw [show l.length - 1=k by omega,hs]
 rw [e]
 have eh:(l.set k { s with im:=aV s.im (n:Int) x }).map (·.head)=l.map (·.head):=by
  rw [List.map_set];refine List.ext_getElem? fun i=>?_
  rw [List.getElem?_set]
  split
  ·rename_i hi
   subst hi;rw [List.getElem?_map,hs]
   split
   ·rfl
   ·rename_i hh;rw [List.length_map] at hh;omega
  ·rfl
 refine ⟨by rw [eh];exact h.row.ch hc fun j hj e=>h.ne g hgm (e ▸ hj),by rw [List.length_set];exact hgl,fun p hp=>?_,h.nd,h.ne⟩;obtain ⟨i,hi,rfl⟩:=List.getElem_of_mem hp;rw [List.length_zip,List.length_set] at hi;rw [List.getElem_zip];have hig:i<gs.length:=by omega
 by_cases hik:i=k
 ·subst hik;have hgi:gs[i]=g:=by rw [List.getElem?_eq_getElem hig] at hg;injection hg
  simp only [List.getElem_set_self];rw [hgi];exact hm
 ·have hne:gs[i]≠g:=fun e=>by
   rw [List.getElem?_eq_getElem (by omega)] at hg;injection hg with hg
   exact hik ((List.getElem_inj h.nd).1 (e.trans hg.symm))
  simp only;rw [List.getElem_set_ne (fun e=>hik e.symm)];refine MpIs.ch (h.im (gs[i],l[i]'(by omega)) ?_) hc hne;rw [← List.getElem_zip (h:=by rw [List.length_zip];omega)];exact List.getElem_mem _
theorem rI {P:Pgr} {n:Nat} {s:By} (h1:P.fj n=false) (h2:P.fs n=false):P.keep n s=P:=by unfold Pgr.keep;rw [h1,h2];rfl
theorem iE {P:Pgr} {n:Nat} {s:By} (h:(P.fj n || P.fs n)=true):P.keep n s=((P.fetch n s).jotIf (P.fj n) n s).imgIf (P.fs n) n s:=by unfold Pgr.keep;rw [if_pos h]
theorem kW (n:Nat) (old s:By) (w:World) {L:PgL} {P:Pgr} (h:PgIs w L P) (hc:CanChange P n old s):
  Calls Tryz.prog 93 #[au L.gp,.int .i64 n,.string (ak s)] w fun e w'=>e=.returned (.int .i64 0)∧PTo w L (P.change n old s) w':=by
 have HW:=hid (kS n w h hc.lt);have HH:=hid h;have HCC:=hid hc;unfold au at *;clear h hc;obtain ⟨r1,hr1⟩:∃ r,P.fj n=r:=⟨_,rfl⟩;obtain ⟨r2,hr2⟩:∃ r,P.fs n=r:=⟨_,rfl⟩;rw [hr1,hr2] at HW;have HR:=hid (And.intro hr1 hr2);clear hr1 hr2;go_enter Tryz.func93,Tryz.ntmps93;go_wp2_with fail;refine HW.out.mono ?_;rintro e w1 ⟨rfl,hb1⟩;have HB1:=hid hb1;have HP1:=hid (HH.out.below hb1);clear hb1;cases r1 <;> cases r2
 ·have HK7:=hid (show PTo w L (P.keep n old) w1 from by rw [rI HR.out.1 HR.out.2];exact (PTo.refl HH.out).post HB1.out);obtain ⟨L7,g7,p7,f7,k7⟩:=HK7.out;have HHD:=hid (bX n s true w1 p7 HCC.out.lt HCC.out.gone HCC.out.spills);rw [g7] at HHD;have HT7:=hid (And.intro g7 (And.intro f7 k7));unfold au at HHD;clear g7 p7 f7 k7;go_wp2_with fail;refine HHD.out.mono ?_;rintro e w9 ⟨rfl,hr⟩;have HRR:=hid (show PTo w L (P.change n old s) w9 from PTo.and HT7.out.1 HT7.out.2.1 HT7.out.2.2 hr);clear hr;go_wp2_with fail;go_ret;exact ⟨rfl,HRR.out⟩
 ·have HKE:=hid (iE (P:=P) (n:=n) (s:=old) (by rw [HR.out.1,HR.out.2];rfl));have HFE:=hid (cE n old w1 HP1.out (HCC.out.keep.fetch (by rw [HR.out.1,HR.out.2];rfl)));have HLN:=hid (HCC.out.keep.fetch (by rw [HR.out.1,HR.out.2];rfl)).len;unfold au at HFE;go_wp2_with fail;refine HFE.out.mono ?_;rintro e w3 ⟨rfl,hr⟩;have HT3:=hid (PTo.pre hr HB1.out);clear hr;have HQ4:=hid (show PTo w L ((P.fetch n old).jotIf (P.fj n) n old) w3 from by rw [HR.out.1];exact HT3.out);obtain ⟨L5,g5,p5,f5,k5⟩:=HQ4.out;obtain ⟨k,v,hk,hv,hvl⟩:=HCC.out.keep.im HR.out.2;obtain ⟨b,off,c,g,v',hvs,hbl,hcell,-,hv2,hg,him⟩:=p5.sv.last hk;rw [hv] at hv2;injection hv2 with hv2
  subst hv2;have hnn:=p5.ok.nos;rw [hk] at hnn;have hgl:=him.lt;obtain ⟨w6,hrun,hm6,hgr⟩:=(him.ch (S:=fun _=>False) (Ch.drew (Ch.refl _ _)) id).set sD (a:=(n:Int)) (cR (by have:=HCC.out.lt;omega)) old (by unfold maxLen;omega);have hC5:=ai p5.blk;have c21:=hC5.c21;have cl:=hC5.lt;rw [hvs,g5] at c21;rw [g5] at cl;have HK7:=hid (show PTo w L (P.keep n old) w6 from by
   rw [HKE.out,HR.out.2];have hc6:Ch (fun j=>j=g) w3 w6:=(Ch.drew (Ch.refl _ _)).trans (Ch.of_grown hgr fun j hj=>by injection hj with hj;exact hj.symm);have hgF:jS L5.vs L5.gs g:=.inr (List.mem_of_getElem? hg);refine PTo.and g5 f5 k5 ⟨L5,rfl,?_,fun _ hk=>.inl hk,hc6.mono fun j _ e=>.inr (.inr (.inr (.inr (e ▸ hgF))))⟩;exact p5.setSv (gs:=L5.gs) (p5.sv.img hk hg hv hc6 hm6) (fun j hj=>.inl hj) (by rw [lk];exact p5.ok.nos) hc6 (fun j e=>e ▸ hgF))
  have hwr:IntKind.i64.wrap ((k:Int)+1 - 1)=(k:Int):=by rw [IntKind.wrap_i64];omega
  have hwk:IntKind.i64.wrap (k:Int)=(k:Int):=by rw [IntKind.wrap_i64];omega
  have hk0:(0:Int)≤(k:Int):=by omega
  have hk2:(k:Int)<(k:Int)+1:=by omega
  unfold rJ sw at hrun;clear g5 p5 f5 k5 hk hv hvl hvs hg him hnn hm6 hgr hC5 hgl;go_wp2_with fail;go_region;clear c21 cl hrun hcell hbl hwr hwk hk0 hk2;obtain ⟨L7,g7,p7,f7,k7⟩:=HK7.out;have HHD:=hid (bX n s true w6 p7 HCC.out.lt HCC.out.gone HCC.out.spills);rw [g7] at HHD;have HT7:=hid (And.intro g7 (And.intro f7 k7));unfold au at HHD;clear g7 p7 f7 k7;go_wp2_with fail;refine HHD.out.mono ?_;rintro e w9 ⟨rfl,hr⟩;have HRR:=hid (show PTo w L (P.change n old s) w9 from PTo.and HT7.out.1 HT7.out.2.1 HT7.out.2.2 hr);clear hr;go_wp2_with fail;go_ret;exact ⟨rfl,HRR.out⟩
 ·have HKE:=hid (iE (P:=P) (n:=n) (s:=old) (by rw [HR.out.1,HR.out.2];rfl));have HFE:=hid (cE n old w1 HP1.out (HCC.out.keep.fetch (by rw [HR.out.1,HR.out.2];rfl)));have HLN:=hid (HCC.out.keep.fetch (by rw [HR.out.1,HR.out.2];rfl)).len;unfold au at HFE;go_wp2_with fail;refine HFE.out.mono ?_;rintro e w3 ⟨rfl,hr⟩;have HT3:=hid (PTo.pre hr HB1.out);clear hr;obtain ⟨L3,g3,p3,f3,k3⟩:=HT3.out;have HND:=hid (dP w3 p3 (HCC.out.keep.j0 HR.out.1) (HCC.out.keep.ch HR.out.1));have HG3:=hid (And.intro g3 (And.intro f3 k3));rw [g3] at HND;unfold au at HND;clear g3 p3 f3 k3;go_wp2_with fail;refine HND.out.mono ?_;rintro e w4 ⟨rfl,L4,g4,p4,f4,k4⟩;obtain ⟨x,hx⟩:=dC (P.fetch n old);rcases p4.jn with ⟨-,hno⟩ | ⟨gj,y,hN,hnn,hxx⟩
  ·rw [hx] at hno;cases hno
  obtain rfl:y=x:=by rw [hx] at hnn;injection hnn with e;exact e.symm
  have hA4:=p4.apart;have jF:∀ k,(k=gj.1∨k=gj.2)→pe L4.N k:=fun k e=>by rw [hN];exact e
  have hC4:=ai p4.blk;have k24:=hC4.c24;have kl:=hC4.lt;rw [hN,g4,HG3.out.1] at k24;rw [g4,HG3.out.1] at kl;unfold ep au at k24;have HJN:=hid (jw y n old w4 p4.dk hxx (fun e=>hA4.dj _ e (jF _ (.inl rfl))) (fun e=>hA4.dj _ e (jF _ (.inr rfl))) (HCC.out.keep.note HR.out.1 y hx) HLN.out);unfold au at HJN;have HP4:=hid p4;have HG4:=hid (And.intro g4 (And.intro f4 k4));have HN4:=hid hN;have HE4:=hid (show (P.fetch n old).jot n old={ (P.fetch n old).note with d:=y.noteD (P.fetch n old).note.d n old,notes:=some (y.noteJ n) } by unfold Pgr.jot;rw [hx]);clear g4 p4 f4 k4 hx hN hnn hxx hA4 jF hC4;go_wp2_with fail;refine HJN.out.mono ?_;rintro e w5 ⟨rfl,hto⟩;have HQ4:=hid (show PTo w L ((P.fetch n old).jotIf (P.fj n) n old) w5 from by
   have h5:=HP4.out.setDJ HN4.out hto;rw [← HE4.out] at h5;rw [HR.out.1];exact PTo.and HG3.out.1 HG3.out.2.1 HG3.out.2.2 (PTo.and HG4.out.1 HG4.out.2.1 HG4.out.2.2 h5))
  clear hto k24 kl;have HK7:=hid (show PTo w L (P.keep n old) w5 from by rw [HKE.out,HR.out.2];exact HQ4.out);obtain ⟨L7,g7,p7,f7,k7⟩:=HK7.out;have HHD:=hid (bX n s true w5 p7 HCC.out.lt HCC.out.gone HCC.out.spills);rw [g7] at HHD;have HT7:=hid (And.intro g7 (And.intro f7 k7));unfold au at HHD;clear g7 p7 f7 k7;go_wp2_with fail;refine HHD.out.mono ?_;rintro e w9 ⟨rfl,hr⟩;have HRR:=hid (show PTo w L (P.change n old s) w9 from PTo.and HT7.out.1 HT7.out.2.1 HT7.out.2.2 hr);clear hr;go_wp2_with fail;go_ret;exact ⟨rfl,HRR.out⟩
 ·have HKE:=hid (iE (P:=P) (n:=n) (s:=old) (by rw [HR.out.1,HR.out.2];rfl));have HFE:=hid (cE n old w1 HP1.out (HCC.out.keep.fetch (by rw [HR.out.1,HR.out.2];rfl)));have HLN:=hid (HCC.out.keep.fetch (by rw [HR.out.1,HR.out.2];rfl)).len;unfold au at HFE;go_wp2_with fail;refine HFE.out.mono ?_;rintro e w3 ⟨rfl,hr⟩;have HT3:=hid (PTo.pre hr HB1.out);clear hr;obtain ⟨L3,g3,p3,f3,k3⟩:=HT3.out;have HND:=hid (dP w3 p3 (HCC.out.keep.j0 HR.out.1) (HCC.out.keep.ch HR.out.1));have HG3:=hid (And.intro g3 (And.intro f3 k3));rw [g3] at HND;unfold au at HND;clear g3 p3 f3 k3;go_wp2_with fail;refine HND.out.mono ?_;rintro e w4 ⟨rfl,L4,g4,p4,f4,k4⟩;obtain ⟨x,hx⟩:=dC (P.fetch n old);rcases p4.jn with ⟨-,hno⟩ | ⟨gj,y,hN,hnn,hxx⟩
  ·rw [hx] at hno;cases hno
  obtain rfl:y=x:=by rw [hx] at hnn;injection hnn with e;exact e.symm
  have hA4:=p4.apart;have jF:∀ k,(k=gj.1∨k=gj.2)→pe L4.N k:=fun k e=>by rw [hN];exact e
  have hC4:=ai p4.blk;have k24:=hC4.c24;have kl:=hC4.lt;rw [hN,g4,HG3.out.1] at k24;rw [g4,HG3.out.1] at kl;unfold ep au at k24;have HJN:=hid (jw y n old w4 p4.dk hxx (fun e=>hA4.dj _ e (jF _ (.inl rfl))) (fun e=>hA4.dj _ e (jF _ (.inr rfl))) (HCC.out.keep.note HR.out.1 y hx) HLN.out);unfold au at HJN;have HP4:=hid p4;have HG4:=hid (And.intro g4 (And.intro f4 k4));have HN4:=hid hN;have HE4:=hid (show (P.fetch n old).jot n old={ (P.fetch n old).note with d:=y.noteD (P.fetch n old).note.d n old,notes:=some (y.noteJ n) } by unfold Pgr.jot;rw [hx]);clear g4 p4 f4 k4 hx hN hnn hxx hA4 jF hC4;go_wp2_with fail;refine HJN.out.mono ?_;rintro e w5 ⟨rfl,hto⟩;have HQ4:=hid (show PTo w L ((P.fetch n old).jotIf (P.fj n) n old) w5 from by
   have h5:=HP4.out.setDJ HN4.out hto;rw [← HE4.out] at h5;rw [HR.out.1];exact PTo.and HG3.out.1 HG3.out.2.1 HG3.out.2.2 (PTo.and HG4.out.1 HG4.out.2.1 HG4.out.2.2 h5))
  clear hto k24 kl;obtain ⟨L5,g5,p5,f5,k5⟩:=HQ4.out;obtain ⟨k,v,hk,hv,hvl⟩:=HCC.out.keep.im HR.out.2;obtain ⟨b,off,c,g,v',hvs,hbl,hcell,-,hv2,hg,him⟩:=p5.sv.last hk;rw [hv] at hv2;injection hv2 with hv2
  subst hv2;have hnn:=p5.ok.nos;rw [hk] at hnn;have hgl:=him.lt;obtain ⟨w6,hrun,hm6,hgr⟩:=(him.ch (S:=fun _=>False) (Ch.drew (Ch.refl _ _)) id).set sD (a:=(n:Int)) (cR (by have:=HCC.out.lt;omega)) old (by unfold maxLen;omega);have hC5:=ai p5.blk;have c21:=hC5.c21;have cl:=hC5.lt;rw [hvs,g5] at c21;rw [g5] at cl;have HK7:=hid (show PTo w L (P.keep n old) w6 from by
   rw [HKE.out,HR.out.2];have hc6:Ch (fun j=>j=g) w5 w6:=(Ch.drew (Ch.refl _ _)).trans (Ch.of_grown hgr fun j hj=>by injection hj with hj;exact hj.symm);have hgF:jS L5.vs L5.gs g:=.inr (List.mem_of_getElem? hg);refine PTo.and g5 f5 k5 ⟨L5,rfl,?_,fun _ hk=>.inl hk,hc6.mono fun j _ e=>.inr (.inr (.inr (.inr (e ▸ hgF))))⟩;exact p5.setSv (gs:=L5.gs) (p5.sv.img hk hg hv hc6 hm6) (fun j hj=>.inl hj) (by rw [lk];exact p5.ok.nos) hc6 (fun j e=>e ▸ hgF))
  have hwr:IntKind.i64.wrap ((k:Int)+1 - 1)=(k:Int):=by rw [IntKind.wrap_i64];omega
  have hwk:IntKind.i64.wrap (k:Int)=(k:Int):=by rw [IntKind.wrap_i64];omega
  have hk0:(0:Int)≤(k:Int):=by omega
  have hk2:(k:Int)<(k:Int)+1:=by omega
  unfold rJ sw at hrun;clear g5 p5 f5 k5 hk hv hvl hvs hg him hnn hm6 hgr hC5 hgl;go_wp2_with fail;go_region;clear c21 cl hrun hcell hbl hwr hwk hk0 hk2;obtain ⟨L7,g7,p7,f7,k7⟩:=HK7.out;have HHD:=hid (bX n s true w6 p7 HCC.out.lt HCC.out.gone HCC.out.spills);rw [g7] at HHD;have HT7:=hid (And.intro g7 (And.intro f7 k7));unfold au at HHD;clear g7 p7 f7 k7;go_wp2_with fail;refine HHD.out.mono ?_;rintro e w9 ⟨rfl,hr⟩;have HRR:=hid (show PTo w L (P.change n old s) w9 from PTo.and HT7.out.1 HT7.out.2.1 HT7.out.2.2 hr);clear hr;go_wp2_with fail;go_ret;exact ⟨rfl,HRR.out⟩
def Pgr.wr (P:Pgr):Pgr:={ P with wrote:=true }
theorem fX (n:Nat) (old s:By) (w:World) {L:PgL} {P:Pgr} (h:PgIs w L P) (hu:P.Up) (hb:P.busy=true) (h1:1≤n) (hn:n<P.work.pages) (h232:s.length=232) (hc:CanChange P n old s):
  Calls Tryz.prog 38 #[au L.gp,.int .i64 n,.string (ak s)] w fun e w'=>e=.returned (.int .i64 0)∧PTo w L (P.change n old s).wr w':=by
 have hz2:(ak s).size=232:=by rw [ay,h232]
 have HC:=hid hc;have HN:=hid (And.intro h1 hn);clear hc h1 hn h232;have hA:Below w.heap.size w (w.alloc (.cells #[.bool true] 4)):=(Below.refl _ w).alloc (Nat.le_refl _) _;have hX:(w.alloc (.cells #[.bool true] 4)).heap[w.heap.size]?=some (.cells #[.bool true] 4 (0,0)):=ah rfl;have HB:=hid (aN true w.heap.size _ (h.below hA) hu (aa hX 0) (af hX));rw [hb,show fG (some true) true=0 from rfl] at HB;have HA:=hid hA;have HH:=hid h;have HU:=hid (And.intro hu hb);unfold au at *;clear h hu hb hA hX;go_enter Tryz.func38,Tryz.ntmps38;go_wp2_with fail;refine HB.out.mono ?_;rintro e w1 ⟨rfl,hb1⟩;have HB1:=hid (HA.out.trans (hb1.mono HA.out.size));have HP1:=hid (HH.out.below HB1.out);have hC:=ai HP1.out.blk;have hlt:=hC.lt;have c16:=hC.c16;clear hb1 hC;have hn1:(1:Int)≤(n:Int):=by have:=HN.out.1;omega
 have hl:(n:Int)<(P.work.pages:Int):=by have:=HN.out.2;omega
 have HF:=hid (kW n old s w1 HP1.out HC.out);unfold au at HF;go_wp2_with fail;refine HF.out.mono ?_;rintro e w2 ⟨rfl,L2,g2,p2,f2,k2⟩;have HDN:=hid (cF w2 p2);rw [g2] at HDN;have HT:=hid (And.intro g2 (And.intro f2 k2));unfold au at HDN;clear g2 p2 f2 k2;go_wp2_with fail;refine HDN.out.mono ?_;rintro e w3 ⟨rfl,hr⟩;have HR:=hid (show PTo w L (P.change n old s).wr w3 from PTo.pre (PTo.and HT.out.1 HT.out.2.1 HT.out.2.2 hr) HB1.out);clear hr;go_wp2_with fail;go_ret;exact ⟨rfl,HR.out⟩
theorem jo (n:Nat) (s:By) (w:World) {L:PgL} {P:Pgr} (h:PgIs w L P) (hu:P.Up) (h1:1≤n) (hn:n<P.now.pages) (hc:CanFetch P n s) (hd:(P.fetch n s).d.down=false):
  Calls Tryz.prog 18 #[au L.gp,.int .i64 n] w fun e w'=>e=.returned (.tuple #[.string (ak s),.int .i64 0])∧PTo w L (P.fetch n s) w':=by
 have HB:=hid (en w h hu);have HH:=hid h;have HC:=hid (And.intro hc hd);have hn1:(1:Int)≤(n:Int):=by omega
 have hl:(n:Int)<(P.now.pages:Int):=by omega
 unfold au at *;clear h hu h1 hn hc hd;go_enter Tryz.func18,Tryz.ntmps18;go_wp2_with fail;refine HB.out.mono ?_;rintro e w1 ⟨rfl,hb1⟩;have HP1:=hid (HH.out.below hb1);have HB1:=hid hb1;clear hb1;have HNW:=hid (fk w1 HP1.out);have HPN:=hid (show eH (if P.busy then P.work else P.head)=eH P.now from rfl);rw [HPN.out] at HNW;have hf:=qj;generalize P.now=W at *;unfold eH ko au at HNW;go_wp2_with fail;refine HNW.out.mono ?_;rintro e w2 ⟨rfl,hb2⟩;have HP2:=hid (HP1.out.below hb2);have HB2:=hid (HB1.out.trans (hb2.mono HB1.out.size));clear hb2;have HF:=hid (cE n s w2 HP2.out HC.out.1);unfold au at HF;go_wp2_with fail;refine HF.out.mono ?_;rintro e w3 ⟨rfl,L3,g3,p3,f3,c3⟩;have HD:=hid (bL w3 p3.dk);rw [HC.out.2] at HD;have c0:=(ai p3.blk).c0;have hlt:=(ai p3.blk).lt;rw [g3] at c0 hlt;unfold au at c0;have HT:=hid (show PTo w L (P.fetch n s) w3 from PTo.pre ⟨L3,g3,p3,f3,c3⟩ HB2.out);clear g3 p3 f3 c3;go_wp2_with fail;refine HD.out.mono ?_;rintro e w4 ⟨rfl,rfl⟩;go_wp2_with fail;go_ret2;exact ⟨rfl,HT.out⟩
theorem nZ (n:Nat) (w:World) {L:PgL} {P:Pgr} (h:PgIs w L P) (hu:P.Up) (hn:P.now.pages≤n) (h1:1≤n):
  Calls Tryz.prog 18 #[au L.gp,.int .i64 n] w fun e w'=>e=.returned (.tuple #[.string ⟨#[]⟩,.int .i64 21])∧Below w.heap.size w w':=by
 have HB:=hid (en w h hu);have HH:=hid h;have hn1:(1:Int)≤(n:Int):=by omega
 have hl:(P.now.pages:Int)≤(n:Int):=by omega
 unfold au at *;clear h hu h1 hn;go_enter Tryz.func18,Tryz.ntmps18;go_wp2_with fail;refine HB.out.mono ?_;rintro e w1 ⟨rfl,hb1⟩;have HP1:=hid (HH.out.below hb1);have HB1:=hid hb1;clear hb1;have HNW:=hid (fk w1 HP1.out);have HPN:=hid (show eH (if P.busy then P.work else P.head)=eH P.now from rfl);rw [HPN.out] at HNW;have hf:=qj;generalize P.now=W at *;unfold eH ko au at HNW;go_wp2_with fail;refine HNW.out.mono ?_;rintro e w2 ⟨rfl,hb2⟩;have HB2:=hid (HB1.out.trans (hb2.mono HB1.out.size));clear hb2;go_wp2_with fail;go_ret2;exact ⟨rfl,HB2.out⟩
theorem kX (v:Value) (w:World) {L:PgL} {P:Pgr} (h:PgIs w L P) (hd:P.over=true∨P.d.down=true∨P.d.life≠P.life):
  Calls Tryz.prog 53 #[au L.gp,v] w fun e w'=>e=.returned (.int .i64 10)∧PTo w L { P with over:=true } w':=by
 have hC:=ai h.blk;have hl:=hC.lt;have c0:=hC.c0;have c10:=hC.c10;have c11:=hC.c11;have HD:=hid (fun (y:Up w)=>bL y.w (h.dk.ch (Ch.of_below (S:=fun _=>False) y.h) (fun _ _ h=>h)));have HL:=hid (fun (y:Up w)=>cr y.w (h.dk.ch (Ch.of_below (S:=fun _=>False) y.h) (fun _ _ h=>h)));have HH:=hid h;have HDD:=hid hd;unfold au at *;clear h hC hd;go_enter Tryz.func53,Tryz.ntmps53;cases ho:P.over
 ·rw [ho] at c11;cases hd:P.d.down
  ·have hlf:((P.d.life:Int) != P.life)=true:=by
    rcases HDD.out with h | h | h
    ·rw [ho] at h;cases h
    ·rw [hd] at h;cases h
    ·simpa using h
   rw [hd] at HD;clear ho hd;go_upto_region 3 with fail
   refine ar (by kernel_rfl) (by kernel_rfl) ?_;have f0:=aE c0 hl;have f10:=aE c10 hl;have f11:=aE c11 hl
   repeat (go_big_quiet_step (first
    | (go_at_call 63;(with_reducible exact bd (HD.out _)))
    | (go_at_call 44;(with_reducible exact bd (HL.out _)))))
   refine wpQuiet_nil ?_;rintro w1 ⟨⟨_,hb1⟩,rfl⟩;have HB1:=hid hb1;have HP1:=hid (HH.out.below hb1);have hC:=ai HP1.out.blk;have k11:=hC.c11;have z11:=hC.fz 11;have kl:=hC.lt
   have HF:=hid (show ∀ w2,w2=w1.setCell ⟨L.gp,11,none⟩ (.bool true)→PTo w L { P with over:=true } w2 from fun w2 hw=>by
    rw [hw];exact PTo.pre (HP1.out.cell 11 (.bool true) (ae HP1.out.blk 11 (.bool true)) rfl rfl rfl rfl rfl ⟨HP1.out.ok.s1,HP1.out.ok.s2,HP1.out.ok.base,HP1.out.ok.hp,HP1.out.ok.wp,HP1.out.ok.nos⟩) HB1.out)
   clear hb1 hC c0 c10 c11 f0 f10 f11;go_wp2_with fail;go_ret;exact ⟨rfl,HF.out _ rfl⟩
  ·rw [hd] at HD;clear ho hd;go_upto_region 3 with fail
   refine ar (by kernel_rfl) (by kernel_rfl) ?_;have f0:=aE c0 hl;have f10:=aE c10 hl;have f11:=aE c11 hl
   repeat (go_big_quiet_step (first
    | (go_at_call 63;(with_reducible exact bd (HD.out _)))
    | (go_at_call 44;(with_reducible exact bd (HL.out _)))))
   refine wpQuiet_nil ?_;rintro w1 ⟨⟨_,hb1⟩,rfl⟩;have HB1:=hid hb1;have HP1:=hid (HH.out.below hb1);have hC:=ai HP1.out.blk;have k11:=hC.c11;have z11:=hC.fz 11;have kl:=hC.lt
   have HF:=hid (show ∀ w2,w2=w1.setCell ⟨L.gp,11,none⟩ (.bool true)→PTo w L { P with over:=true } w2 from fun w2 hw=>by
    rw [hw];exact PTo.pre (HP1.out.cell 11 (.bool true) (ae HP1.out.blk 11 (.bool true)) rfl rfl rfl rfl rfl ⟨HP1.out.ok.s1,HP1.out.ok.s2,HP1.out.ok.base,HP1.out.ok.hp,HP1.out.ok.wp,HP1.out.ok.nos⟩) HB1.out)
   clear hb1 hC c0 c10 c11 f0 f10 f11;go_wp2_with fail;go_ret;exact ⟨rfl,HF.out _ rfl⟩
 ·rw [ho] at c11;clear ho;go_upto_region 3 with fail
  refine ar (by kernel_rfl) (by kernel_rfl) ?_;have f0:=aE c0 hl;have f10:=aE c10 hl;have f11:=aE c11 hl
  repeat (go_big_quiet_step (first
   | (go_at_call 63;(with_reducible exact bd (HD.out _)))
   | (go_at_call 44;(with_reducible exact bd (HL.out _)))))
  refine wpQuiet_nil ?_;rintro w1 ⟨⟨_,hb1⟩,rfl⟩;have HB1:=hid hb1;have HP1:=hid (HH.out.below hb1);have hC:=ai HP1.out.blk;have k11:=hC.c11;have z11:=hC.fz 11;have kl:=hC.lt
  have HF:=hid (show ∀ w2,w2=w1.setCell ⟨L.gp,11,none⟩ (.bool true)→PTo w L { P with over:=true } w2 from fun w2 hw=>by
   rw [hw];exact PTo.pre (HP1.out.cell 11 (.bool true) (ae HP1.out.blk 11 (.bool true)) rfl rfl rfl rfl rfl ⟨HP1.out.ok.s1,HP1.out.ok.s2,HP1.out.ok.base,HP1.out.ok.hp,HP1.out.ok.wp,HP1.out.ok.nos⟩) HB1.out)
  clear hb1 hC c0 c10 c11 f0 f10 f11;go_wp2_with fail;go_ret;exact ⟨rfl,HF.out _ rfl⟩
theorem oa (n:Int) (w:World) {L:PgL} {P:Pgr} (h:PgIs w L P) (hd:P.over=true∨P.d.down=true∨P.d.life≠P.life):
  Calls Tryz.prog 18 #[au L.gp,.int .i64 n] w fun e w'=>e=.returned (.tuple #[.string ⟨#[]⟩,.int .i64 10])∧PTo w L { P with over:=true } w':=by
 have HB:=hid (kX (.slice none 0 0) w h hd);unfold au at *;clear h hd;go_enter Tryz.func18,Tryz.ntmps18;go_wp2_with fail;refine HB.out.mono ?_;rintro e w1 ⟨rfl,hr⟩;have HR:=hid hr;clear hr;go_wp2_with fail;go_ret2;exact ⟨rfl,HR.out⟩
end Go.Proofs.YtdmhbgpejppbkaaGreat
namespace Go.Proofs.YtdmhbgpejppbkaaGreat
open Go.Lib (hid)
open Go.RowKit Go.Maps
theorem ro (p:He × Nat):∀ u ∈ je p,u.oneCell'=true:=by intro u hu;simp only [je,List.mem_cons,List.not_mem_nil,or_false] at hu;rcases hu with rfl | rfl | rfl | rfl | rfl | rfl | rfl <;> rfl
theorem uZ:ElemT Tryz.prog 75 114 je 7 56:=
 ElemT.mk' (z:=.agg #[.int .i64 0,.int .i64 0,.int .i64 0,.int .i64 0,.int .i64 0,.int .u64 0,.map none]) Tryz.underlying75 (by kernel_rfl) (by rfl) (by omega) cN ro
def Pgr.saved (P:Pgr):Pgr:={ P with saves:=P.saves ++ [⟨P.work,[]⟩] }
theorem PgIs.newSv {w w1 w2:World} {L:PgL} {P:Pgr} {v':Value} {gN:Nat} (h:PgIs w L P) (hb:Below w.heap.size w w1) (hg1:w.heap.size≤gN) (hg2:gN<w1.heap.size) (hm:fI w1 gN []) (hr:Own je 7 114 0 w2 v' ((P.saves.map (·.head)).zip L.gs ++ [(P.work,gN)]))
  (hgr:w1.grownBy w2 L.vs.ownBlock) (hat:v'.ownBlock=L.vs.ownBlock∨v'.ownBlock=some w1.heap.size) (hn:P.saves.length<16):PTo w L P.saved (w2.setCell ⟨L.gp,21,none⟩ v'):=by
 have hc2:Ch (fun k=>L.vs.ownBlock=some k) w1 w2:=Ch.of_grown hgr fun k hk=>hk
 have hs1:=hb.size;have hs2:=hc2.size;have hA:=h.apart;have hvF:∀ k,L.vs.ownBlock=some k→jS L.vs L.gs k:=fun k hk=>.inl hk
 have hgl:=h.sv.len;have hgi:∀ k ∈ L.gs,k<w.heap.size:=fun k hk=>h.sv.lt (.inr hk)
 have hSv:SvIs w2 v' (L.gs ++ [gN]) P.saved.saves:=by
  refine ⟨?_,by simp [Pgr.saved,hgl],fun p hp=>?_,?_,fun k hk e=>?_⟩
  ·unfold Pgr.saved;rw [List.map_append,List.zip_append (by rw [List.length_map,hgl])];exact hr
  ·unfold Pgr.saved at hp;rw [List.zip_append hgl] at hp;rcases List.mem_append.1 hp with hp | hp
   ·have h1:=h.sv.im p hp;have hpm:=(List.of_mem_zip hp).1;exact (h1.ch (S:=fun _=>False) (Ch.of_below hb) id).ch hc2 fun e=>h.sv.ne _ hpm e
   ·simp only [List.zip_cons_cons,List.zip_nil_right,List.mem_singleton] at hp;rw [hp];exact hm.ch hc2 fun e=>by have:=h.sv.lt (k:=gN) (.inl e);omega
  ·rw [List.nodup_append];exact ⟨h.sv.nd,by simp,fun a ha b hb e=>by rw [List.mem_singleton.1 hb] at e;have:=hgi a ha;omega⟩
  ·rcases hat with hat | hat
   ·rw [hat] at e;rcases List.mem_append.1 hk with hk | hk
    ·exact h.sv.ne k hk e
    ·rw [List.mem_singleton.1 hk] at e;have:=h.sv.lt (.inl e);omega
   ·rw [hat] at e;injection e with e
    rcases List.mem_append.1 hk with hk | hk
    ·have:=hgi k hk;omega
    ·rw [List.mem_singleton.1 hk] at e;omega
 have a1:=h.sep.below hb
 have hF:∀ k,jS v' (L.gs ++ [gN]) k→jS L.vs L.gs k∨w.heap.size≤k:=fun k hk=>by
  rcases hk with hk | hk
  ·rcases hat with hat | hat
   ·exact .inl (.inl (hat ▸ hk))
   ·rw [hat] at hk;injection hk with hk;right;omega
  ·rcases List.mem_append.1 hk with hk | hk
   ·exact .inl (.inr hk)
   ·rw [List.mem_singleton.1 hk];exact .inr hg1
 have hcw:Ch (fun k=>L.vs.ownBlock=some k) w w2:=(Ch.of_below hb).trans hc2;have a2:=h.sep.upd (l1:=[Ob.blk L.gp (co L P),gJ L.D P.d,gK L.Fc L.vc P.size P.ca,iw L.D.gd L.N P.notes]) (a:=iu L.vs L.gs P.saves) (b:=iu v' (L.gs ++ [gN]) P.saved.saves) hcw hvF hSv hF;have hblk:w2.heap[L.gp]?=some (co L P):=hcw.keep h.blk fun e=>hA.ps (.inl e)
 have hc3:Ch (fun k=>k=L.gp) w2 (w2.setCell ⟨L.gp,21,none⟩ v'):=(Ch.refl (fun k=>k=L.gp) w2).setCell (p:=⟨L.gp,21,none⟩) rfl _;have a3:=a2.upd (l1:=[]) (b:=Ob.blk L.gp (co { L with vs:=v',gs:=L.gs ++ [gN] } P.saved)) hc3 (fun k hk=>hk) (ae hblk 21 v') (fun k hk=>.inl hk);refine ⟨{ L with vs:=v',gs:=L.gs ++ [gN] },rfl,⟨a3,⟨h.ok.s1,h.ok.s2,h.ok.base,h.ok.hp,h.ok.wp,?_⟩,h.gd⟩,fun k hk=>?_,(hcw.mono fun k _ e=>.inr (.inr (.inr (.inr (.inl e))))).trans (hc3.mono fun k _ e=>.inl e)⟩
 ·show (P.saves ++ [_]).length≤16;rw [List.length_append];simp only [List.length_cons,List.length_nil];omega
 ·rcases hk with hk | hk | hk | hk | hk
  ·exact .inl (.inl hk)
  ·exact .inl (.inr (.inl hk))
  ·exact .inl (.inr (.inr (.inl hk)))
  ·exact .inl (.inr (.inr (.inr (.inl hk))))
  ·exact (hF k hk).imp (fun e=>.inr (.inr (.inr (.inr e)))) id
attribute [local go_sem ↓] mJ
theorem nW (w:World) {L:PgL} {P:Pgr} (h:PgIs w L P) (hu:P.Up) (hb:P.busy=true) (hn:P.saves.length<16):
  Calls Tryz.prog 40 #[au L.gp] w fun e w'=>e=.returned (.int .i64 0)∧PTo w L P.saved w':=by
 have HN:=hid hn;have hmm:=@run_makeMap Tryz.prog;clear hn;have hA:Below w.heap.size w (w.alloc (.cells #[.bool true] 4)):=(Below.refl _ w).alloc (Nat.le_refl _) _;have hX:(w.alloc (.cells #[.bool true] 4)).heap[w.heap.size]?=some (.cells #[.bool true] 4 (0,0)):=ah rfl;have HB:=hid (aN true w.heap.size _ (h.below hA) hu (aa hX 0) (af hX));rw [hb,show fG (some true) true=0 from rfl] at HB;have HA:=hid hA;have HH:=hid h;have HU:=hid (And.intro hu hb);unfold au at *;clear h hu hb hA hX;go_enter Tryz.func40,Tryz.ntmps40;go_wp2_with fail;refine HB.out.mono ?_;rintro e w1 ⟨rfl,hb1⟩;have HB1:=hid (HA.out.trans (hb1.mono HA.out.size));have HP1:=hid (HH.out.below HB1.out);have hC:=ai HP1.out.blk;have hlt:=hC.lt;obtain ⟨A,c,hv,-⟩:=ey HP1.out.sv;have HV:=hid hv;have c21:=hC.c21;rw [hv] at c21;have hl16:(P.saves.length:Int)<16:=by have:=HN.out;omega
 have c15:=hC.c15;have c16:=hC.c16;have c17:=hC.c17;have c18:=hC.c18;have c19:=hC.c19;have c20:=hC.c20;have z21:=hC.fz 21;clear hb1 hC hv;go_upto_region 6 with fail
 have hBB:Below w1.heap.size w1 ((w1.alloc (.map #[] 0)).alloc (oW (P.work,w1.heap.size))):=((Below.refl _ w1).alloc (Nat.le_refl _) _).alloc (by simp) _;have hsB:((w1.alloc (.map #[] 0)).alloc (oW (P.work,w1.heap.size))).heap.size=w1.heap.size+2:=by simp
 have hmB:fI ((w1.alloc (.map #[] 0)).alloc (oW (P.work,w1.heap.size))).drew w1.heap.size []:=((MpIs.made w1).ch (S:=fun _=>False) (Ch.of_below ((Below.refl _ (w1.alloc (.map #[] 0))).alloc (Nat.le_refl _) _)) id).ch (S:=fun _=>False) (Ch.drew (Ch.refl _ _)) id;have hzl:((P.saves.map (·.head)).zip L.gs).length=P.saves.length:=by rw [List.length_zip,List.length_map,HP1.out.sv.len,Nat.min_self]
 have hn16:=HN.out;obtain ⟨v',w2,hr,ho,hg,hat⟩:=bS (P:=Tryz.prog) uZ 75 (HP1.out.below hBB.drew).sv.row
  ((Sl.one (w0:=w1.alloc (.map #[] 0)) (g:=w1.heap.size+1) (e:=114) (cs:=(je (P.work,w1.heap.size)).toArray) (P.work,w1.heap.size) (c:=1) (by simp) cN (by simp)).keep ((Below.refl _ _).drew)) (by rw [hzl];unfold maxLen;simp;omega) (by rw [hzl];simp;omega) (Nat.zero_le _)
 have hr':(kz #[75,75] 75 #[L.vs,.slice (some ⟨w1.heap.size+1,0,none⟩) 1 1]).run Tryz.prog ((w1.alloc (.map #[] 0)).alloc (oW (P.work,w1.heap.size))).drew=.ok v' w2:=hr;have HF:=hid (show PTo w1 L P.saved (w2.setCell ⟨L.gp,21,none⟩ v') from HP1.out.newSv hBB.drew (Nat.le_refl _) (by rw [jC,hsB];omega) hmB ho hg hat HN.out);have hb2:w2.heap[L.gp]?=some (co L P):=(Ch.of_grown hg fun k hk=>hk:Ch (fun k=>L.vs.ownBlock=some k) _ w2).keep (HP1.out.below hBB.drew).blk fun e=>HP1.out.apart.ps (.inl e)
 have d21:=(ai hb2).c21;have y21:=(ai hb2).fz 21;have yl:=(ai hb2).lt;obtain ⟨A',n',c',hv'⟩:=fu ho;rw [HV.out] at hr' d21;unfold oW je at hr';subst hv';clear hr ho hg hat hmB hb2 hBB hsB hzl hn16;go_region;go_wp2_with fail;go_ret;exact ⟨rfl,PTo.pre HF.out HB1.out⟩
end Go.Proofs.YtdmhbgpejppbkaaGreat
