/- pager: wanted, as it is. pager: change, with the journal and savepoints. The plain law of a pager's pages, journal or log: spilling, holding, fetching. -/
import Derived.Test.YtdmhbgpejppbkaaGreatXGaz
import Derived.Test.YtdmhbgpejppbkaaGreatXGay
set_option maxRecDepth 100000
set_option maxHeartbeats 4000000
namespace Go.Proofs.YtdmhbgpejppbkaaGreat
open Go.Lib (hid)
open Go.RowKit Go.Maps
theorem cL (p:He × Nat):(mO p).length=7:=rfl
theorem SvIs.last {w:World} {v:Value} {gs:List Nat} {l:List Sv} (h:SvIs w v gs l) {k:Nat} (hk:l.length=k+1):∃ b off c g s,v=.slice (some ⟨b,off,none⟩) (k+1) c∧b<w.heap.size∧w.cell? ⟨b,off+k * 7+6,none⟩=some (.map (some g))∧l.getLast?=some s∧l[k]?=some s∧gs[k]?=some g∧fu w g s.im:=by
 have hgl:=h.len;have hkl:k<l.length:=by omega
 have hkg:k<gs.length:=by omega
 have hz:((l.map (·.head)).zip gs).length=k+1:=by rw [List.length_zip,List.length_map,hgl,Nat.min_self,hk]
 obtain ⟨b,off,c,hv,hb,hc⟩:=(h.row.sl cL).at1 (k:=k) (by omega);refine ⟨b,off,c,gs[k],l[k],by rw [hv,hz],hb,?_,?_,List.getElem?_eq_getElem hkl,List.getElem?_eq_getElem hkg,?_⟩
 ·refine hc 6 _ ?_;rw [List.getElem_zip];rfl
 ·rw [List.getLast?_eq_getElem?,hk];exact List.getElem?_eq_getElem hkl
 ·refine h.im (gs[k],l[k]) ?_;rw [← List.getElem_zip (h:=by rw [List.length_zip];omega)];exact List.getElem_mem _
theorem nZ (n:Nat) {l:List Sv} {gs:List Nat} (h:gs.length=l.length):((l.map (·.head)).zip gs).any (bo n)=l.any (iz n):=by
 induction l generalizing gs with
 | nil=>simp
 | cons s l ih=>
   cases gs with
   | nil=>cases h
   | cons g gs=> rw [List.map_cons,List.zip_cons_cons,List.any_cons,List.any_cons,ih (by simpa using h)];rfl
theorem pO (n:Nat) (w:World) {L:PgL} {P:Pgr} (h:PgIs w L P) (hn:n<4096):
  Calls Tryz.prog 140 #[ai L.gp,.int .i64 n] w fun e w'=>e=.returned (.tuple #[.bool (P.fj n),.bool (P.fs n)])∧Below w.heap.size w w':=by
 have hA:Below w.heap.size w (w.alloc (.cells #[.int .i64 n] 3)):=(Below.refl _ w).alloc (Nat.le_refl _) _;have HA:=hid hA;have hX:(w.alloc (.cells #[.int .i64 n] 3)).heap[w.heap.size]?=some (.cells #[.int .i64 n] 3 (0,0)):=af rfl;have HH:=hid (h.below hA);have HX:=hid hX;unfold ai at *;clear hA hX h;go_enter Tryz.func140,Tryz.ntmps140;go_upto_region 1 with fail
 have hw0:∃ w0,w.alloc (.cells #[.int .i64 n] 3)=w0:=⟨_,rfl⟩;obtain ⟨w0,hw0⟩:=hw0;rw [hw0] at HA HH HX ⊢;clear hw0;obtain ⟨r,hr⟩:∃ r,P.fj n=r:=⟨_,rfl⟩;have HR:=hid hr;clear hr;go_cut [6] from 10 to 31 (fun c wx=>c=.bool r∧Below w0.heap.size w0 wx)
 case first=>
  have hC:=ag HH.out.blk;have hl:=hC.lt;have x0:=aa HX.out 0;have xl:=ab HX.out;simp only [List.getElem?_toArray,List.getElem?_cons_zero] at x0;have c9:=hC.c9;have c8:=hC.c8;have c24:=hC.c24;have f8:=ay c8 hl;have fx:=ay x0 xl;rcases HH.out.lgo with ⟨hG,hg0⟩ | ⟨M,l0,hG,hg0,-⟩
  ·rw [hG] at c9;unfold bn at c9;have f9:=ay c9 hl;clear hG;by_cases hbn:n<P.base
   ·have hbn2:decide (n<P.base)=true:=decide_eq_true hbn;have hr2:=HR.out;unfold Pgr.fj at hr2;rw [hg0,hbn2,Bool.true_and] at hr2;simp only [Option.isNone_none,Bool.true_and] at hr2;rcases HH.out.jn with ⟨hN,hno⟩ | ⟨gj,x,hN,hno,hx⟩
    ·have hrt:r=true:=by unfold Pgr.hasN at hr2;rw [hno] at hr2;exact hr2.symm
     rw [hN] at c24;unfold dq at c24;have f24:=ay c24 hl;have HNL:=hid (fun w=>wJ (n:Int) w);have HRT:=hid hrt;clear hC c8 c9 c24 x0 xl hr2 hN hno hbn hrt;refine am (by kernel_rfl) (by kernel_rfl) ?_
     repeat (go_big_quiet_step (first
      | (go_at_call 199;(with_reducible exact bm (HNL.out _)))))
     refine wpQuiet_nil ?_;rintro w' ⟨⟨w2,hb2⟩,rfl⟩;go_wp2_with fail;go_meet
     case rel=>exact ⟨by rw [HRT.out],hb2⟩
    ·have hrt:r=!(x.has n):=by unfold Pgr.hasN at hr2;rw [hno] at hr2;exact hr2.symm
     rw [hN] at c24;unfold dq ai at c24;have f24:=ay c24 hl;have HNL:=hid (fun (y:Up w0)=>wK x n y.w (hx.ch (S:=fun _=>False) (Ch.of_below y.h) id id) (bD (by omega)));unfold ai at HNL;rw [show (aC x.noted (n:Int)).getD false=x.has n from rfl] at HNL;have HRT:=hid hrt;generalize x.has n=y at *;clear hC c8 c9 c24 x0 xl hr2 hN hno hbn hrt hx;refine am (by kernel_rfl) (by kernel_rfl) ?_
     repeat (go_big_quiet_step (first
      | (go_at_call 199;(with_reducible exact bm (HNL.out _)))))
     refine wpQuiet_nil ?_;rintro w' ⟨⟨w2,hb2⟩,rfl⟩;go_wp2_with fail;go_meet
     case rel=>exact ⟨by rw [HRT.out],hb2⟩
   ·have hbn2:decide (n<P.base)=false:=decide_eq_false hbn;have hrt:r=false:=by rw [← HR.out];unfold Pgr.fj;rw [hbn2,Bool.false_and,Bool.and_false]
    have HRT:=hid hrt;clear hC c8 c9 c24 x0 xl hbn hrt;refine am (by kernel_rfl) (by kernel_rfl) ?_
    repeat (go_big_quiet_step (fail))
    refine wpQuiet_nil ?_;rintro w' ⟨⟨w2,hb2⟩,rfl⟩;go_wp2_with fail;go_meet
    case rel=>exact ⟨by rw [HRT.out],hb2⟩
  ·rw [hG] at c9;unfold bn ai at c9;have f9:=ay c9 hl;have hrt:r=false:=by rw [← HR.out];unfold Pgr.fj;rw [hg0];rfl
   have HRT:=hid hrt;clear hG hC c8 c9 c24 x0 xl hrt;refine am (by kernel_rfl) (by kernel_rfl) ?_
   repeat (go_big_quiet_step (fail))
   refine wpQuiet_nil ?_;rintro w' ⟨⟨w2,hb2⟩,rfl⟩;go_wp2_with fail;go_meet
   case rel=>exact ⟨by rw [HRT.out],hb2⟩
 case rest=>
 obtain ⟨rfl,hb1⟩:=hcut;have HB1:=hid (HA.out.trans (hb1.mono HA.out.size));have HB0:=hid hb1;have hP1:=HH.out.below hb1;have hC:=ag hP1.blk;have hl:=hC.lt;have c21:=hC.c21;rcases hs:P.saves with _ | ⟨s0,ss⟩
 ·obtain ⟨A,c,hv,-⟩:=dz hP1.sv;rw [hs] at hv;rw [hv] at c21;have HF:=hid (show P.fs n=false by unfold Pgr.fs;rw [hs];rfl);clear hb1 hC hP1 hv hs;go_wp2_with fail;go_ret2;exact ⟨by rw [HF.out,HR.out];rfl,HB1.out⟩
 ·have hlk:P.saves.length=ss.length+1:=by rw [hs];rfl
  obtain ⟨b,off,c,g,s,hv,hbl,hcell,hlast,-,-,him⟩:=hP1.sv.last hlk;have hnos:=HH.out.ok.nos;rw [hlk] at hnos;have hlook:=him.look2 xM (a:=(n:Int)) (bD (by omega));obtain ⟨sv,hsv⟩:∃ sv,qg xJ (.string ⟨#[]⟩) (aC s.im (n:Int))=.string sv:=by
   cases aC s.im (n:Int) with
   | none=>exact ⟨_,rfl⟩
   | some x=>exact ⟨_,rfl⟩
  have hlook2:=(him.ch (S:=fun _=>False) (Ch.drew (Ch.refl _ _)) id).look2 xM (a:=(n:Int)) (bD (by omega));rw [hsv] at hlook hlook2;have HF:=hid (show P.fs n=(P.any n && !(aC s.im (n:Int)).isSome) by unfold Pgr.fs Pgr.hasI;rw [hlast,hs];rfl);have HAN:=hid (nZ n HH.out.sv.len);have HCT:=hid (fun (w':World) (hb:Below w0.heap.size w0 w')=>mI n w.heap.size L.vs ((P.saves.map (·.head)).zip L.gs) w' ((HH.out.below hb).sv.row.sl cL) (by rw [List.length_zip,List.length_map];omega) ((hb.cell (p:=⟨w.heap.size,0,none⟩) (ab HX.out)).trans (aa HX.out 0)) (Nat.lt_of_lt_of_le (ab HX.out) hb.size));rw [HAN.out,show P.saves.any (iz n)=P.any n from rfl,hv] at HCT;rw [hv] at c21;generalize (aC s.im (n:Int)).isSome=q at *;generalize P.any n=p at *;have hx0:=(hb1.cell (p:=⟨w.heap.size,0,none⟩) (ab HX.out)).trans (aa HX.out 0);simp only [List.getElem?_toArray,List.getElem?_cons_zero] at hx0;have hxl:=Nat.lt_of_lt_of_le (ab HX.out) hb1.size;generalize ss.length=k at *;have hwr:IntKind.i64.wrap ((k:Int)+1 - 1)=(k:Int):=by rw [IntKind.wrap_i64];omega
  have hwk:IntKind.i64.wrap (k:Int)=(k:Int):=by rw [IntKind.wrap_i64];omega
  have hk0:(0:Int)≤(k:Int):=by omega
  have hk2:(k:Int)<(k:Int)+1:=by omega
  have hk3:((k:Int)+1 == 0)=false:=by simp;omega
  unfold ny at hlook hlook2;clear hb1 hC hP1 hv hs hlk hlast him hsv;go_wp2_with fail;go_region;go_wp2_with fail;refine (HCT.out _ (by first | exact HB0.out | exact HB0.out.drew)).mono ?_;rintro e w5 ⟨rfl,hb5⟩;have HB5:=hid (show Below w.heap.size w w5 from HB1.out.trans ((show Below wc.heap.size wc w5 from by first | exact hb5 | exact ((Below.refl wc.heap.size wc).drew).trans hb5).mono HB1.out.size));clear hb5;cases p
  ·go_wp2_with fail;go_ret2;exact ⟨by rw [HF.out,HR.out];rfl,HB5.out⟩
  ·go_wp2_with fail;go_ret2;exact ⟨by rw [HF.out,HR.out];rfl,HB5.out⟩
def Pgr.jot (P:Pgr) (n:Nat) (s:By):Pgr:=match P.note.notes with
 | none=>P.note
 | some j=>{ P.note with d:=j.noteD P.note.d n s,notes:=some (j.noteJ n) }
def ko (l:List Sv) (n:Nat) (s:By):List Sv:=match l[l.length - 1]? with
 | none=>l
 | some v=>l.set (l.length - 1) { v with im:=aX v.im (n:Int) s }
def Pgr.img (P:Pgr) (n:Nat) (s:By):Pgr:={ P with saves:=ko P.saves n s }
def Pgr.jotIf (P:Pgr) (b:Bool) (n:Nat) (s:By):Pgr:=if b then P.jot n s else P
def Pgr.imgIf (P:Pgr) (b:Bool) (n:Nat) (s:By):Pgr:=if b then P.img n s else P
def Pgr.keep (P:Pgr) (n:Nat) (s:By):Pgr:=if P.fj n || P.fs n then ((P.fetch n s).jotIf (P.fj n) n s).imgIf (P.fs n) n s else P
def Pgr.change (P:Pgr) (n:Nat) (old s:By):Pgr:=(P.keep n old).hold n s true
structure CanKeep (P:Pgr) (n:Nat) (s:By):Prop where
 fetch:(P.fj n || P.fs n)=true→CanFetch P n s
 j0:P.fj n=true→(P.fetch n s).notes=none→(P.fetch n s).d.file aQ=none
 ch:P.fj n=true→(P.fetch n s).head.change+1<18446744073709551616
 note:P.fj n=true→∀ j,(P.fetch n s).note.notes=some j→CanNote (P.fetch n s).note.d j n
 im:P.fs n=true→∃ k v,((P.fetch n s).jotIf (P.fj n) n s).saves.length=k+1∧((P.fetch n s).jotIf (P.fj n) n s).saves[k]?=some v∧v.im.length<1000000
structure CanChange (P:Pgr) (n:Nat) (old s:By):Prop where
 keep:CanKeep P n old
 lt:n<4096
 gone:((P.keep n old).gone n s true).length≤1000
 spills:bU ((P.keep n old).putc n s true) ((P.keep n old).gone n s true)
theorem qz (l:List Sv) (n:Nat) (s:By):(ko l n s).length=l.length:=by
 unfold ko
 split
 ·rfl
 ·rw [List.length_set]
theorem SvIs.img {w w':World} {v:Value} {gs:List Nat} {l:List Sv} {k g:Nat} {s:Sv} {n:Nat} {x:By} (h:SvIs w v gs l) (hk:l.length=k+1) (hg:gs[k]?=some g) (hs:l[k]?=some s) (hc:Ch (fun j=>j=g) w w') (hm:fu w' g (aX s.im (n:Int) x)):SvIs w' v gs (ko l n x):=by
 have hgl:=h.len;have hgm:g ∈ gs:=List.mem_of_getElem? hg;have e:ko l n x=l.set k { s with im:=aX s.im (n:Int) x }:=by unfold ko;rw [show l.length - 1=k by omega,hs]
 rw [e]
 have eh:(l.set k { s with im:=aX s.im (n:Int) x }).map (·.head)=l.map (·.head):=by
  rw [List.map_set];refine List.ext_getElem? fun i=>?_
  rw [List.getElem?_set]
  split
  ·rename_i hi
   subst hi;rw [List.getElem?_map,hs]
   split
   ·rfl
   ·rename_i hh;rw [List.length_map] at hh;omega
  ·rfl
 refine ⟨by rw [eh];exact h.row.ch hc fun j hj e=>h.ne g hgm (e ▸ hj),by rw [List.length_set];exact hgl,fun p hp=>?_,h.nd,h.ne⟩;obtain ⟨i,hi,rfl⟩:=List.getElem_of_mem hp;rw [List.length_zip,List.length_set] at hi;rw [List.getElem_zip];have hig:i<gs.length:=by omega
 by_cases hik:i=k
 ·subst hik;have hgi:gs[i]=g:=by rw [List.getElem?_eq_getElem hig] at hg;injection hg
  simp only [List.getElem_set_self];rw [hgi];exact hm
 ·have hne:gs[i]≠g:=fun e=>by
   rw [List.getElem?_eq_getElem (by omega)] at hg;injection hg with hg
   exact hik ((List.getElem_inj h.nd).1 (e.trans hg.symm))
  simp only;rw [List.getElem_set_ne (fun e=>hik e.symm)];refine MpIs.ch (h.im (gs[i],l[i]'(by omega)) ?_) hc hne;rw [← List.getElem_zip (h:=by rw [List.length_zip];omega)];exact List.getElem_mem _
theorem yG {P:Pgr} {n:Nat} {s:By} (h1:P.fj n=false) (h2:P.fs n=false):P.keep n s=P:=by unfold Pgr.keep;rw [h1,h2];rfl
theorem lI {P:Pgr} {n:Nat} {s:By} (h:(P.fj n || P.fs n)=true):P.keep n s=((P.fetch n s).jotIf (P.fj n) n s).imgIf (P.fs n) n s:=by unfold Pgr.keep;rw [if_pos h]
theorem gw (n:Nat) (old s:By) (w:World) {L:PgL} {P:Pgr} (h:PgIs w L P) (hc:CanChange P n old s):
  Calls Tryz.prog 93 #[ai L.gp,.int .i64 n,.string (aj s)] w fun e w'=>e=.returned (.int .i64 0)∧PTo w L (P.change n old s) w':=by
 have HW:=hid (pO n w h hc.lt);have HH:=hid h;have HCC:=hid hc;unfold ai at *;clear h hc;obtain ⟨r1,hr1⟩:∃ r,P.fj n=r:=⟨_,rfl⟩;obtain ⟨r2,hr2⟩:∃ r,P.fs n=r:=⟨_,rfl⟩;rw [hr1,hr2] at HW;have HR:=hid (And.intro hr1 hr2);clear hr1 hr2;go_enter Tryz.func93,Tryz.ntmps93;go_wp2_with fail;refine HW.out.mono ?_;rintro e w1 ⟨rfl,hb1⟩;have HB1:=hid hb1;have HP1:=hid (HH.out.below hb1);clear hb1;cases r1 <;> cases r2
 ·have HK7:=hid (show PTo w L (P.keep n old) w1 from by rw [yG HR.out.1 HR.out.2];exact (PTo.refl HH.out).post HB1.out);obtain ⟨L7,g7,p7,f7,k7⟩:=HK7.out;have HHD:=hid (cY n s true w1 p7 HCC.out.lt HCC.out.gone HCC.out.spills);rw [g7] at HHD;have HT7:=hid (And.intro g7 (And.intro f7 k7));unfold ai at HHD;clear g7 p7 f7 k7;go_wp2_with fail;refine HHD.out.mono ?_;rintro e w9 ⟨rfl,hr⟩;have HRR:=hid (show PTo w L (P.change n old s) w9 from PTo.and HT7.out.1 HT7.out.2.1 HT7.out.2.2 hr);clear hr;go_wp2_with fail;go_ret;exact ⟨rfl,HRR.out⟩
 ·have HKE:=hid (lI (P:=P) (n:=n) (s:=old) (by rw [HR.out.1,HR.out.2];rfl));have HFE:=hid (ey n old w1 HP1.out (HCC.out.keep.fetch (by rw [HR.out.1,HR.out.2];rfl)));have HLN:=hid (HCC.out.keep.fetch (by rw [HR.out.1,HR.out.2];rfl)).len;unfold ai at HFE;go_wp2_with fail;refine HFE.out.mono ?_;rintro e w3 ⟨rfl,hr⟩;have HT3:=hid (PTo.pre hr HB1.out);clear hr;have HQ4:=hid (show PTo w L ((P.fetch n old).jotIf (P.fj n) n old) w3 from by rw [HR.out.1];exact HT3.out);obtain ⟨L5,g5,p5,f5,k5⟩:=HQ4.out;obtain ⟨k,v,hk,hv,hvl⟩:=HCC.out.keep.im HR.out.2;obtain ⟨b,off,c,g,v',hvs,hbl,hcell,-,hv2,hg,him⟩:=p5.sv.last hk;rw [hv] at hv2;injection hv2 with hv2
  subst hv2;have hnn:=p5.ok.nos;rw [hk] at hnn;have hgl:=him.lt;obtain ⟨w6,hrun,hm6,hgr⟩:=(him.ch (S:=fun _=>False) (Ch.drew (Ch.refl _ _)) id).set xM (a:=(n:Int)) (bD (by have:=HCC.out.lt;omega)) old (by unfold maxLen;omega);have hC5:=ag p5.blk;have c21:=hC5.c21;have cl:=hC5.lt;rw [hvs,g5] at c21;rw [g5] at cl;have HK7:=hid (show PTo w L (P.keep n old) w6 from by
   rw [HKE.out,HR.out.2];have hc6:Ch (fun j=>j=g) w3 w6:=(Ch.drew (Ch.refl _ _)).trans (Ch.of_grown hgr fun j hj=>by injection hj with hj;exact hj.symm);have hgF:kk L5.vs L5.gs g:=.inr (List.mem_of_getElem? hg);refine PTo.and g5 f5 k5 ⟨L5,rfl,?_,fun _ hk=>.inl hk,hc6.mono fun j _ e=>.inr (.inr (.inr (.inr (.inl (e ▸ hgF)))))⟩;exact p5.setSv (gs:=L5.gs) (p5.sv.img hk hg hv hc6 hm6) (fun j hj=>.inl hj) (by rw [qz];exact p5.ok.nos) hc6 (fun j e=>e ▸ hgF))
  have hwr:IntKind.i64.wrap ((k:Int)+1 - 1)=(k:Int):=by rw [IntKind.wrap_i64];omega
  have hwk:IntKind.i64.wrap (k:Int)=(k:Int):=by rw [IntKind.wrap_i64];omega
  have hk0:(0:Int)≤(k:Int):=by omega
  have hk2:(k:Int)<(k:Int)+1:=by omega
  unfold ny xJ at hrun;clear g5 p5 f5 k5 hk hv hvl hvs hg him hnn hm6 hgr hC5 hgl;go_wp2_with fail;go_region;clear c21 cl hrun hcell hbl hwr hwk hk0 hk2;obtain ⟨L7,g7,p7,f7,k7⟩:=HK7.out;have HHD:=hid (cY n s true w6 p7 HCC.out.lt HCC.out.gone HCC.out.spills);rw [g7] at HHD;have HT7:=hid (And.intro g7 (And.intro f7 k7));unfold ai at HHD;clear g7 p7 f7 k7;go_wp2_with fail;refine HHD.out.mono ?_;rintro e w9 ⟨rfl,hr⟩;have HRR:=hid (show PTo w L (P.change n old s) w9 from PTo.and HT7.out.1 HT7.out.2.1 HT7.out.2.2 hr);clear hr;go_wp2_with fail;go_ret;exact ⟨rfl,HRR.out⟩
 ·have HKE:=hid (lI (P:=P) (n:=n) (s:=old) (by rw [HR.out.1,HR.out.2];rfl));have HFE:=hid (ey n old w1 HP1.out (HCC.out.keep.fetch (by rw [HR.out.1,HR.out.2];rfl)));have HLN:=hid (HCC.out.keep.fetch (by rw [HR.out.1,HR.out.2];rfl)).len;unfold ai at HFE;go_wp2_with fail;refine HFE.out.mono ?_;rintro e w3 ⟨rfl,hr⟩;have HT3:=hid (PTo.pre hr HB1.out);clear hr;obtain ⟨L3,g3,p3,f3,k3⟩:=HT3.out;have HND:=hid (ev w3 p3 (HCC.out.keep.j0 HR.out.1) (HCC.out.keep.ch HR.out.1));have HG3:=hid (And.intro g3 (And.intro f3 k3));rw [g3] at HND;unfold ai at HND;clear g3 p3 f3 k3;go_wp2_with fail;refine HND.out.mono ?_;rintro e w4 ⟨rfl,L4,g4,p4,f4,k4⟩;obtain ⟨x,hx⟩:=dD (P.fetch n old);rcases p4.jn with ⟨-,hno⟩ | ⟨gj,y,hN,hnn,hxx⟩
  ·rw [hx] at hno;cases hno
  obtain rfl:y=x:=by rw [hx] at hnn;injection hnn with e;exact e.symm
  have hA4:=p4.apart;have jF:∀ k,(k=gj.1∨k=gj.2)→qw L4.N k:=fun k e=>by rw [hN];exact e
  have hC4:=ag p4.blk;have k24:=hC4.c24;have kl:=hC4.lt;rw [hN,g4,HG3.out.1] at k24;rw [g4,HG3.out.1] at kl;unfold dq ai at k24;have HJN:=hid (jL y n old w4 p4.dk hxx (fun e=>hA4.dj _ e (jF _ (.inl rfl))) (fun e=>hA4.dj _ e (jF _ (.inr rfl))) (HCC.out.keep.note HR.out.1 y hx) HLN.out);unfold ai at HJN;have HP4:=hid p4;have HG4:=hid (And.intro g4 (And.intro f4 k4));have HN4:=hid hN;have HE4:=hid (show (P.fetch n old).jot n old={ (P.fetch n old).note with d:=y.noteD (P.fetch n old).note.d n old,notes:=some (y.noteJ n) } by unfold Pgr.jot;rw [hx]);clear g4 p4 f4 k4 hx hN hnn hxx hA4 jF hC4;go_wp2_with fail;refine HJN.out.mono ?_;rintro e w5 ⟨rfl,hto⟩;have HQ4:=hid (show PTo w L ((P.fetch n old).jotIf (P.fj n) n old) w5 from by
   have h5:=HP4.out.setDJ HN4.out hto;rw [← HE4.out] at h5;rw [HR.out.1];exact PTo.and HG3.out.1 HG3.out.2.1 HG3.out.2.2 (PTo.and HG4.out.1 HG4.out.2.1 HG4.out.2.2 h5))
  clear hto k24 kl;have HK7:=hid (show PTo w L (P.keep n old) w5 from by rw [HKE.out,HR.out.2];exact HQ4.out);obtain ⟨L7,g7,p7,f7,k7⟩:=HK7.out;have HHD:=hid (cY n s true w5 p7 HCC.out.lt HCC.out.gone HCC.out.spills);rw [g7] at HHD;have HT7:=hid (And.intro g7 (And.intro f7 k7));unfold ai at HHD;clear g7 p7 f7 k7;go_wp2_with fail;refine HHD.out.mono ?_;rintro e w9 ⟨rfl,hr⟩;have HRR:=hid (show PTo w L (P.change n old s) w9 from PTo.and HT7.out.1 HT7.out.2.1 HT7.out.2.2 hr);clear hr;go_wp2_with fail;go_ret;exact ⟨rfl,HRR.out⟩
 ·have HKE:=hid (lI (P:=P) (n:=n) (s:=old) (by rw [HR.out.1,HR.out.2];rfl));have HFE:=hid (ey n old w1 HP1.out (HCC.out.keep.fetch (by rw [HR.out.1,HR.out.2];rfl)));have HLN:=hid (HCC.out.keep.fetch (by rw [HR.out.1,HR.out.2];rfl)).len;unfold ai at HFE;go_wp2_with fail;refine HFE.out.mono ?_;rintro e w3 ⟨rfl,hr⟩;have HT3:=hid (PTo.pre hr HB1.out);clear hr;obtain ⟨L3,g3,p3,f3,k3⟩:=HT3.out;have HND:=hid (ev w3 p3 (HCC.out.keep.j0 HR.out.1) (HCC.out.keep.ch HR.out.1));have HG3:=hid (And.intro g3 (And.intro f3 k3));rw [g3] at HND;unfold ai at HND;clear g3 p3 f3 k3;go_wp2_with fail;refine HND.out.mono ?_;rintro e w4 ⟨rfl,L4,g4,p4,f4,k4⟩;obtain ⟨x,hx⟩:=dD (P.fetch n old);rcases p4.jn with ⟨-,hno⟩ | ⟨gj,y,hN,hnn,hxx⟩
  ·rw [hx] at hno;cases hno
  obtain rfl:y=x:=by rw [hx] at hnn;injection hnn with e;exact e.symm
  have hA4:=p4.apart;have jF:∀ k,(k=gj.1∨k=gj.2)→qw L4.N k:=fun k e=>by rw [hN];exact e
  have hC4:=ag p4.blk;have k24:=hC4.c24;have kl:=hC4.lt;rw [hN,g4,HG3.out.1] at k24;rw [g4,HG3.out.1] at kl;unfold dq ai at k24;have HJN:=hid (jL y n old w4 p4.dk hxx (fun e=>hA4.dj _ e (jF _ (.inl rfl))) (fun e=>hA4.dj _ e (jF _ (.inr rfl))) (HCC.out.keep.note HR.out.1 y hx) HLN.out);unfold ai at HJN;have HP4:=hid p4;have HG4:=hid (And.intro g4 (And.intro f4 k4));have HN4:=hid hN;have HE4:=hid (show (P.fetch n old).jot n old={ (P.fetch n old).note with d:=y.noteD (P.fetch n old).note.d n old,notes:=some (y.noteJ n) } by unfold Pgr.jot;rw [hx]);clear g4 p4 f4 k4 hx hN hnn hxx hA4 jF hC4;go_wp2_with fail;refine HJN.out.mono ?_;rintro e w5 ⟨rfl,hto⟩;have HQ4:=hid (show PTo w L ((P.fetch n old).jotIf (P.fj n) n old) w5 from by
   have h5:=HP4.out.setDJ HN4.out hto;rw [← HE4.out] at h5;rw [HR.out.1];exact PTo.and HG3.out.1 HG3.out.2.1 HG3.out.2.2 (PTo.and HG4.out.1 HG4.out.2.1 HG4.out.2.2 h5))
  clear hto k24 kl;obtain ⟨L5,g5,p5,f5,k5⟩:=HQ4.out;obtain ⟨k,v,hk,hv,hvl⟩:=HCC.out.keep.im HR.out.2;obtain ⟨b,off,c,g,v',hvs,hbl,hcell,-,hv2,hg,him⟩:=p5.sv.last hk;rw [hv] at hv2;injection hv2 with hv2
  subst hv2;have hnn:=p5.ok.nos;rw [hk] at hnn;have hgl:=him.lt;obtain ⟨w6,hrun,hm6,hgr⟩:=(him.ch (S:=fun _=>False) (Ch.drew (Ch.refl _ _)) id).set xM (a:=(n:Int)) (bD (by have:=HCC.out.lt;omega)) old (by unfold maxLen;omega);have hC5:=ag p5.blk;have c21:=hC5.c21;have cl:=hC5.lt;rw [hvs,g5] at c21;rw [g5] at cl;have HK7:=hid (show PTo w L (P.keep n old) w6 from by
   rw [HKE.out,HR.out.2];have hc6:Ch (fun j=>j=g) w5 w6:=(Ch.drew (Ch.refl _ _)).trans (Ch.of_grown hgr fun j hj=>by injection hj with hj;exact hj.symm);have hgF:kk L5.vs L5.gs g:=.inr (List.mem_of_getElem? hg);refine PTo.and g5 f5 k5 ⟨L5,rfl,?_,fun _ hk=>.inl hk,hc6.mono fun j _ e=>.inr (.inr (.inr (.inr (.inl (e ▸ hgF)))))⟩;exact p5.setSv (gs:=L5.gs) (p5.sv.img hk hg hv hc6 hm6) (fun j hj=>.inl hj) (by rw [qz];exact p5.ok.nos) hc6 (fun j e=>e ▸ hgF))
  have hwr:IntKind.i64.wrap ((k:Int)+1 - 1)=(k:Int):=by rw [IntKind.wrap_i64];omega
  have hwk:IntKind.i64.wrap (k:Int)=(k:Int):=by rw [IntKind.wrap_i64];omega
  have hk0:(0:Int)≤(k:Int):=by omega
  have hk2:(k:Int)<(k:Int)+1:=by omega
  unfold ny xJ at hrun;clear g5 p5 f5 k5 hk hv hvl hvs hg him hnn hm6 hgr hC5 hgl;go_wp2_with fail;go_region;clear c21 cl hrun hcell hbl hwr hwk hk0 hk2;obtain ⟨L7,g7,p7,f7,k7⟩:=HK7.out;have HHD:=hid (cY n s true w6 p7 HCC.out.lt HCC.out.gone HCC.out.spills);rw [g7] at HHD;have HT7:=hid (And.intro g7 (And.intro f7 k7));unfold ai at HHD;clear g7 p7 f7 k7;go_wp2_with fail;refine HHD.out.mono ?_;rintro e w9 ⟨rfl,hr⟩;have HRR:=hid (show PTo w L (P.change n old s) w9 from PTo.and HT7.out.1 HT7.out.2.1 HT7.out.2.2 hr);clear hr;go_wp2_with fail;go_ret;exact ⟨rfl,HRR.out⟩
end Go.Proofs.YtdmhbgpejppbkaaGreat
namespace Go.Proofs.YtdmhbgpejppbkaaGreat
open Go.RowKit
def fU (B:Int→By) (n:Int) (s:By):Int→By:=fun m=>if m=n then s else B m
structure Cz (T:Nat→By→Prop) (ca:List On) (B:Int→By) (N:Nat) (lost:List Pg):Prop where
 kv:(ca.map (·.1)).Nodup
 rng:∀ x ∈ ca,∃ (m:Nat) (s:By),x.1=m∧1≤m∧m<80∧x.2.1=aj s∧s.length=232∧(m<N→s=B m)
 cln:∀ x ∈ ca,x.2.2=false→∀ m:Nat,x.1=m→m<N→T m (B m)
 lst:∀ p ∈ lost,∃ (m:Nat) (s:By),p.n=m∧1≤m∧m<80∧p.s=aj s∧s.length=232∧(m<N→s=B m)
 all:∀ m:Nat,1≤m→m<N→(∃ x ∈ ca,x.1=m)∨(∃ p ∈ lost,p.n=m)∨T m (B m)
section
variable {T T':Nat→By→Prop} {ca:List On} {B B':Int→By} {N n:Nat} {lost:List Pg}
theorem Cz.up (h:Cz T ca B N lost) (hd:∀ m:Nat,1≤m→m<N→T m (B m)→T' m (B m)):Cz T' ca B N lost:=
 ⟨h.kv,h.rng,fun x hx hc m hm hN=>hd m (by obtain ⟨k,s,e,k1,-⟩:=h.rng x hx;omega) hN (h.cln x hx hc m hm hN),h.lst,fun m h1 h2=>(h.all m h1 h2).imp id (fun h=>h.imp id (hd m h1 h2))⟩
theorem Cz.congr (h:Cz T ca B N lost) (he:∀ m:Nat,m<N→B' m=B m):Cz T ca B' N lost:=by
 refine ⟨h.kv,fun x hx=>?_,fun x hx hc m hm hN=>by rw [he m hN];exact h.cln x hx hc m hm hN,fun p hp=>?_,fun m h1 h2=>by rw [he m h2];exact h.all m h1 h2⟩
 ·obtain ⟨m,s,a,b,c,d,e,f⟩:=h.rng x hx;exact ⟨m,s,a,b,c,d,e,fun hm=>(f hm).trans (he m hm).symm⟩
 ·obtain ⟨m,s,a,b,c,d,e,f⟩:=h.lst p hp;exact ⟨m,s,a,b,c,d,e,fun hm=>(f hm).trans (he m hm).symm⟩
theorem Cz.less (h:Cz T ca B N lost) {N':Nat} (hN:N'≤N):Cz T ca B N' lost:=by
 refine ⟨h.kv,fun x hx=>?_,fun x hx hc m hm hn=>h.cln x hx hc m hm (by omega),fun p hp=>?_,fun m h1 h2=>h.all m h1 (by omega)⟩
 ·obtain ⟨m,s,a,b,c,d,e,f⟩:=h.rng x hx;exact ⟨m,s,a,b,c,d,e,fun hm=>f (by omega)⟩
 ·obtain ⟨m,s,a,b,c,d,e,f⟩:=h.lst p hp;exact ⟨m,s,a,b,c,d,e,fun hm=>f (by omega)⟩
theorem Cz.spill {x:Pg} {s:By} (h:Cz T ca B N (x :: lost)) (hx:x.n=n) (hs:n<N→s=B n) (hn:T' n s) (hd:∀ (m:Nat) t,t.length=232→m≠n→T m t→T' m t) (hl:∀ n,(B n).length=232):Cz T' ca B N lost:=by
 have h':Cz T' ca B N (x :: lost):=h.up fun m h1 hN hm=>by
  by_cases e:m=n
  ·subst e;rw [← hs hN];exact hn
  ·exact hd m _ (hl _) e hm
 refine ⟨h'.kv,h'.rng,h'.cln,fun p hp=>h'.lst p (List.mem_cons_of_mem _ hp),fun m h1 h2=>?_⟩;rcases h'.all m h1 h2 with h3 | ⟨p,hp,hpm⟩ | h3
 ·exact .inl h3
 ·rcases List.mem_cons.1 hp with rfl | hp
  ·right;right;have:m=n:=by omega
   subst this;rw [← hs h2];exact hn
  ·exact .inr (.inl ⟨p,hp,hpm⟩)
 ·exact .inr (.inr h3)
end
structure JMode (P:Pgr) (C:Int→By) (lost:List Pg) (its:List It):Prop where
 lg:P.lg=none
 nl:P.d.has bf=false
 jz:JZ P.base (P.head.change+1) C P.d P.notes its
 mar:P.marred=decide (0<(aW its).f)
 main:∀ m:Nat,1≤m→m<P.base→m ∉ (aW its).su.map (·.1)→aF P.d m (C m)
 ca:∀ x ∈ P.ca,∀ m:Nat,x.1=m→m<P.base→P.hasN m=false→x.2.2=false∧x.2.1=aj (C m)
 lost:∀ p ∈ lost,∀ m:Nat,p.n=m→m<P.base→P.hasN m=true
 ml:P.base≤(P.d.now aA).length
 img:∀ s ∈ P.saves,∀ p ∈ s.im,∀ m:Nat,p.1=m→m<P.base→P.hasN m=true
 mf:0<(aW its).f→P.d.has aA=true
structure LMode (P:Pgr) (C:Int→By) (l:List Fr) (its:List Ft) (mk:Nat):Prop where
 lg:P.lg=some l
 nt:P.notes=none
 mar:P.marred=false
 lz:LZ P.base C P.d l its mk
 mark:P.busy=true→P.mark=mk
 idle:P.busy=false→mk=its.length
def Md (P:Pgr) (C:Int→By) (lost:List Pg):Prop:=(∃ its,JMode P C lost its)∨∃ l its mk,LMode P C l its mk
theorem JMode.has {P:Pgr} {C:Int→By} {lost:List Pg} {its:List It} (h:JMode P C lost its) (m:Nat):P.hasN m=decide (m ∈ (aW its).all.map (·.1)):=by
 unfold Pgr.hasN;cases hn:P.notes with
 | none=> rw [h.jz.no hn];rfl
 | some j=>exact ((h.jz.yes j hn).2.2.2.2.2.2 m)
structure Yz (P:Pgr) (C:Int→By) (N:Nat) (B:Int→By) (lost:List Pg):Prop where
 d:Dz P.d
 core:Cz (bu P) P.ca B N lost
 md:Md P C lost
 sp:P.spoilt=false
 base:P.base≤80
 ch:P.head.change<1000
 lenB:∀ n,(B n).length=232
 lenC:∀ n,(C n).length=232
 calm:P.busy=false→(∀ x ∈ P.ca,x.2.2=false)∧lost=[]
def Pgr.SameV (P Q:Pgr):Prop:=Q={ P with d:=Q.d,notes:=Q.notes,marred:=Q.marred,lg:=Q.lg }∧Q.d.life=P.d.life∧(Q.lg.isSome=P.lg.isSome)
theorem Pgr.SameV.refl (P:Pgr):P.SameV P:=⟨rfl,rfl,rfl⟩
theorem Pgr.SameV.trans {P Q R:Pgr} (h:P.SameV Q) (k:Q.SameV R):P.SameV R:=by obtain ⟨h,h2,h3⟩:=h;obtain ⟨k,k2,k3⟩:=k;refine ⟨?_,k2.trans h2,k3.trans h3⟩;clear h2 h3 k2 k3;rw [k];generalize R.d=a at *;generalize R.notes=b at *;generalize R.marred=c at *;generalize R.lg=g at *;rw [h]
theorem kB (d:Dk) (n:By):∀ k,(d.fill n k).life=d.life
 | 0=>rfl
 | k+1=>kB d n k
theorem jW (j:Jn) (d:Dk):(j.sealD d).life=d.life:=by
 unfold Jn.sealD
 split
 ·rfl
 ·split <;> rfl
theorem oa (d:Dk) (l:List Fr) (n:Nat) (s:By) (c:Bool):(dI d l n s c).life=d.life:=by
 show (fB d).life=d.life;unfold fB
 split <;> rfl
theorem lC (d:Dk) (n:Nat) (s:By):(d.lay n s).life=d.life:=kB d aA _
theorem la (P:Pgr):∃ j,P.note.notes=some j∧P.note={ P with notes:=some j }∧(∀ x,P.notes=some x→j=x)∧(P.notes=none→j=⟨P.base,P.head.change+1,0,0,[]⟩):=by
 unfold Pgr.note;cases hn:P.notes with
 | none=>exact ⟨_,rfl,rfl,fun _ h=>(by cases h),fun _=>rfl⟩
 | some j=> refine ⟨j,hn,?_,fun x h=>by injection h,fun h=>by cases h⟩;show P={ P with notes:=some j };rw [← hn]
structure SealedZ (P:Pgr) (C:Int→By) (lost:List Pg) (its:List It) (d':Dk) (j':Jn) (its':List It):Prop where
 e:P.sealed={ P with d:=d',notes:=some j',marred:=true }
 z:Dz d'
 jz:JZ P.base (P.head.change+1) C d' (some j') its'
 all:(aW its').all=(aW its).all
 lo:(aW its').lo=[]
 f:0<(aW its').f
 now:∀ m,m≠aQ→d'.now m=P.d.now m
 has:∀ m,m≠aQ→d'.has m=P.d.has m
 j0:P.notes=none→P.d.file aQ=none
 cs:∀ j,P.note.notes=some j→CanSeal P.d j
 life:d'.life=P.d.life
theorem JMode.sealed {P:Pgr} {C:Int→By} {lost:List Pg} {its:List It} (h:JMode P C lost its) (hz:Dz P.d) (hb:P.base≤80):∃ d' j' its',SealedZ P C lost its d' j' its':=by
 obtain ⟨j,hj,hj2,hj3,hj4⟩:=la P;have hJ:JZ P.base (P.head.change+1) C P.d (some j) its:=by
  cases hn:P.notes with
  | none=> rw [hj4 hn];have:=h.jz;rw [hn] at this;exact this.start
  | some x=> rw [hj3 x hn,← hn];exact h.jz
 have hS:=hJ.seal hz hb;obtain ⟨its',s1,s2,s3,s4⟩:=hS.jz;refine ⟨j.sealD P.d,j.sealJ,its',⟨?_,hS.z,s1,s2,s3,s4,hS.now,hS.has,fun hn=>?_,fun x hx=>?_,jW _ _⟩⟩
 ·unfold Pgr.sealed Pgr.seal;rw [hj,hj2]
 ·have e:=h.jz.no hn;have:=h.jz.has;rw [e] at this;exact has_none.1 this
 ·rw [hj] at hx;injection hx with hx
  subst hx;exact hS.can
structure SpZ (P Q:Pgr) (C:Int→By) (N:Nat) (B:Int→By) (lost:List Pg) (n:Nat) (s:By):Prop where
 can:gD P n s
 y:Yz Q C N B lost
 same:P.SameV Q
 few:aN Q.lg≤aN P.lg+1
 hn:∀ m,Q.hasN m=P.hasN m
theorem xZ {P:Pgr} {C:Int→By} {N:Nat} {B:Int→By} {x:Pg} {lost:List Pg} (h:Yz P C N B (x :: lost)) (hfew:aN P.lg<14500) {n:Nat} {s:By} (hx:x.n=n) (hn:n<80) (hs:s.length=232) (hB:n<N→s=B n):SpZ P (P.spill n s) C N B lost n s:=by
 have hch:=h.ch;have hbz:P.busy=true:=by
  cases hb:P.busy
  ·cases (h.calm hb).2
  ·rfl
 rcases h.md with ⟨its,hm⟩ | ⟨l,its,mk,hm⟩
 ·obtain ⟨d',j',its',hS⟩:=hm.sealed h.d h.base;have hL:=wC hS.z (n:=n) (s:=s) (by omega) hs;have hfw:=hS.z.few;have hto:=hS.z.total;have eq:P.spill n s={ P with d:=d'.lay n s,notes:=some j',marred:=true }:=by rw [kJ hm.lg];unfold Pgr.spillJ;rw [hS.e]
  have hon:∀ m t,aF P.d m t→aF d' m t:=fun m t ho=>by
   rw [onDisk_iff] at ho ⊢;rw [hS.now aA jn_ne.symm];exact ho
  have hlg0:(P.spill n s).lg=none:=by rw [eq];exact hm.lg
  have hcan:gD P n s:=.inl ⟨hm.lg,⟨hS.j0,by omega,hS.cs,by rw [hS.e];exact hS.z.fine,fun _=>by rw [hS.e];show d'.files.length<8;omega,by rw [hS.e];show (d'.total:Int)+n+1≤d'.room;rw [hS.z.room];omega,by omega,hs⟩⟩
  have hall:∀ m,(P.spill n s).hasN m=decide (m ∈ (aW its).all.map (·.1)):=fun m=>by
   have:=(hS.jz.yes j' rfl).2.2.2.2.2.2 m;rw [hS.all] at this;rw [eq];exact this
  have hsu:(aW its').su=(aW its).all:=by have:=hS.all;unfold JS.all at this;rw [hS.lo,List.append_nil] at this;exact this
  have hjm:JMode (P.spill n s) C lost its':=by
   rw [eq] at hall ⊢;refine ⟨hm.lg,?_,hS.jz.same ?_ ?_,?_,fun m h1 h2 h3=>?_,fun y hy m hym hmb hh=>?_,fun p hp m hpm hmb=>?_,?_,fun u hu p hp m hpm hmb=>?_,fun _=>sB (onDisk_iff.1 (oR hL))⟩
   ·show (d'.lay n s).has bf=false;rw [hL.has bf ma_lo.symm,hS.has bf jn_lo.symm];exact hm.nl
   ·exact (hL.now aQ).trans (by rw [if_neg jn_ne])
   ·exact hL.has aQ jn_ne
   ·exact (decide_eq_true hS.f).symm
   ·rw [hsu] at h3
    have hmn:m≠n:=fun e=>by
     have hh:=hm.lost x (by simp) n hx (by rw [← e];exact h2);rw [hm.has,decide_eq_true_eq,← e] at hh;exact h3 hh
    refine ku hL hmn (hon m _ (hm.main m h1 h2 fun hc=>h3 ?_));unfold JS.all;rw [List.map_append];exact List.mem_append_left _ hc
   ·refine hm.ca y hy m hym hmb ?_;rw [hm.has,← hall];exact hh
   ·rw [hall,← hm.has];exact hm.lost p (List.mem_cons_of_mem _ hp) m hpm hmb
   ·show P.base≤((d'.lay n s).now aA).length;rw [hL.now,if_pos rfl,lD,hS.now aA jn_ne.symm];have:=hm.ml;omega
   ·rw [hall,← hm.has];exact hm.img u hu p hp m hpm hmb
  refine ⟨hcan,⟨by rw [eq];exact hL.z,?_,.inl ⟨its',hjm⟩,by rw [eq];exact h.sp,by rw [eq];exact h.base,by rw [eq];exact hch,h.lenB,h.lenC,fun hb=>by rw [eq] at hb;exact absurd (hbz.symm.trans hb) (by decide)⟩,by rw [eq];exact ⟨rfl,(lC _ _ _).trans hS.life,rfl⟩,by rw [hlg0];exact Nat.zero_le _,fun m=>by rw [hall,hm.has]⟩;have hca:(P.spill n s).ca=P.ca:=by rw [eq]
  rw [hca];refine h.core.spill hx hB ?_ (fun m t ht hmn hst=>?_) h.lenB
  ·rw [aU hlg0,eq];exact oR hL
  ·rw [aU hm.lg] at hst;rw [aU hlg0,eq];exact ku hL hmn (hon m t hst)
 ·have hlen:aN P.lg=its.length:=by rw [hm.lg];exact hm.lz.len
  have hA:=hm.lz.add h.d (by omega) (n:=n) (s:=s) (by omega) hs false;have eq:P.spill n s={ P with d:=dI P.d l n s false,lg:=some (cE l n s false) }:=by rw [kI hm.lg];unfold Pgr.add;rw [hm.lg]
  have hlg0:(P.spill n s).lg=some (cE l n s false):=by rw [eq]
  have hd0:(P.spill n s).d=dI P.d l n s false:=by rw [eq]
  refine ⟨.inr ⟨l,hm.lg,hA.can,by omega,hs⟩,⟨by rw [eq];exact hA.z,?_,.inr ⟨cE l n s false,its ++ [(n,s,false)],mk,hlg0,by rw [eq];exact hm.nt,by rw [eq];exact hm.mar,by rw [eq];exact hA.lz,by rw [eq];exact hm.mark,fun hb=>by rw [eq] at hb;exact absurd (hbz.symm.trans hb) (by decide)⟩,by rw [eq];exact h.sp,by rw [eq];exact h.base,by rw [eq];exact hch,h.lenB,h.lenC,fun hb=>by rw [eq] at hb;exact absurd (hbz.symm.trans hb) (by decide)⟩,by rw [eq];exact ⟨rfl,oa _ _ _ _ _,by rw [hm.lg];rfl⟩,by rw [hlg0,hm.lg];show (cE l n s false).length≤l.length+1;unfold cE;rw [List.length_append,List.length_singleton];exact Nat.le_refl _,fun m=>by rw [eq];rfl⟩;have hca:(P.spill n s).ca=P.ca:=by rw [eq]
  rw [hca];refine h.core.spill hx hB ?_ (fun m t ht hmn hst=>?_) h.lenB
  ·rw [ee hA.lz hd0 hlg0 hs,ep,if_pos rfl];exact .inl rfl
  ·rw [ee hm.lz rfl hm.lg ht] at hst;rw [ee hA.lz hd0 hlg0 ht,ep,if_neg (by simpa using hmn.symm),onDisk_iff,hA.now aA ma_lo,← onDisk_iff];exact hst
theorem ob {P:Pgr} {x:Pg} {l:List Pg} (h0:0≤x.n) (h1:gD P x.n.toNat (bs x.s)) (h2:bU (P.spill x.n.toNat (bs x.s)) l):bU P (x :: l):=fun k y hy=>by
 cases k with
 | zero=>
   injection hy with hy
   subst hy;exact ⟨h0,h1⟩
 | succ k=>exact h2 k y hy
theorem pH {C:Int→By} {N:Nat} {B:Int→By}:∀ (l:List Pg) (P:Pgr),Yz P C N B l→aN P.lg+l.length≤14500→
  bU P l∧Yz (P.spills l) C N B []∧P.SameV (P.spills l)∧aN (P.spills l).lg≤aN P.lg+l.length∧∀ m,(P.spills l).hasN m=P.hasN m
 | [],P,h,_=>⟨fun k x hx=>(by cases hx),h,.refl P,Nat.le_refl _,fun _=>rfl⟩
 | x :: l,P,h,hf=>by
   rw [List.length_cons] at hf;obtain ⟨m,s,hm,h1,h2,hxs,hs,hB⟩:=h.core.lst x (by simp);have hS:=xZ h (by omega) hm h2 hs hB;have e1:x.n.toNat=m:=by omega
   have e2:bs x.s=s:=by rw [hxs,aR]
   have hfw:=hS.few;have ih:=pH l (P.spill m s) hS.y (by omega);have e3:P.spills (x :: l)=(P.spill m s).spills l:=by show (P.spill x.n.toNat (bs x.s)).spills l=_;rw [e1,e2]
   rw [e3];refine ⟨ob (by omega) (by rw [e1,e2];exact hS.can) (by rw [e1,e2];exact ih.1),ih.2.1,hS.same.trans ih.2.2.1,?_,fun m=>(ih.2.2.2.2 m).trans (hS.hn m)⟩;rw [List.length_cons];have:=ih.2.2.2.1;omega
structure Uz (P:Pgr) (C:Int→By) (N:Nat) (B:Int→By):Prop where
 up:P.Up
 s1:1≤P.size
 s2:P.size≤256
 y:Yz P C N B []
 fit:(P.ca.length:Int)≤P.size
 N:N≤80
def Pgr.SameW (P Q:Pgr):Prop:=Q={ P with d:=Q.d,ca:=Q.ca,notes:=Q.notes,marred:=Q.marred,lg:=Q.lg }∧Q.d.life=P.d.life∧Q.lg.isSome=P.lg.isSome
theorem Pgr.SameW.refl (P:Pgr):P.SameW P:=⟨rfl,rfl,rfl⟩
theorem Pgr.SameW.trans {P Q R:Pgr} (h:P.SameW Q) (k:Q.SameW R):P.SameW R:=by obtain ⟨h,h2,h3⟩:=h;obtain ⟨k,k2,k3⟩:=k;refine ⟨?_,k2.trans h2,k3.trans h3⟩;clear h2 h3 k2 k3;rw [k];generalize R.d=a at *;generalize R.ca=e at *;generalize R.notes=b at *;generalize R.marred=c at *;generalize R.lg=g at *;rw [h]
theorem Pgr.SameV.w {P Q:Pgr} (h:P.SameV Q):P.SameW Q:=by
 obtain ⟨h,h2,h3⟩:=h;have hc:Q.ca=P.ca:=by rw [h]
 refine ⟨?_,h2,h3⟩;rw [hc];exact h
theorem vmem_without {n:Int} {L:List On} {x:On}:x ∈ without n L↔x ∈ L∧x.1≠n:=by unfold without;rw [List.mem_filter];simp
theorem fT {n:Int} {L:List On} (h:(L.map (·.1)).Nodup):((without n L).map (·.1)).Nodup:=h.sublist (List.Sublist.map _ List.filter_sublist)
theorem pq {n:Int} {L:List On} (h:(L.map (·.1)).Nodup) (v:ByteArray × Bool):((without n L ++ [(n,v)]).map (·.1)).Nodup:=by rw [List.map_append,List.map_cons,List.map_nil,List.nodup_append];refine ⟨fT h,by simp,fun a ha b hb e=>?_⟩;obtain ⟨x,hx,rfl⟩:=List.mem_map.1 ha;rw [List.mem_singleton.1 hb] at e;exact (vmem_without.1 hx).2 e
theorem sP {B:Int→By} {n:Int} {s:By} (h:∀ n,(B n).length=232) (hs:s.length=232):∀ m,(fU B n s m).length=232:=fun m=>by unfold fU;split;exact hs;exact h m
theorem vy (B:Int→By) (n:Nat) (s:By):fU B n s n=s:=by unfold fU;rw [if_pos rfl]
theorem ji {B:Int→By} {n m:Nat} {s:By} (h:m≠n):fU B n s m=B m:=by unfold fU;rw [if_neg (by omega)]
structure HoldZ (P:Pgr) (C:Int→By) (N':Nat) (B':Int→By) (n:Nat) (s:By) (dt:Bool):Prop where
 few:(P.gone n s dt).length≤1
 can:bU (P.putc n s dt) (P.gone n s dt)
 u:Uz (P.hold n s dt) C N' B'
 same:P.SameW (P.hold n s dt)
 lg:aN (P.hold n s dt).lg≤aN P.lg+1
 hn:∀ m,(P.hold n s dt).hasN m=P.hasN m
theorem oV {P:Pgr} {C:Int→By} {N N':Nat} {B:Int→By} {n:Nat} {s:By} {dt:Bool} (h:Uz P C N B) (hfew:aN P.lg<14500) (h1:1≤n) (hn:n<80) (hNN:N'=N∨N'=N+1∧n=N) (hN:N'≤80) (hs:s.length=232)
  (hd:dt=true∨(n<N'→bu P n s)) (hb:dt=true→P.busy=true) (hj:P.lg=none→n<P.base→P.hasN n=false→dt=false∧s=C n):HoldZ P C N' (fU B n s) n s dt:=by
 obtain ⟨l,hl⟩:∃ l:List On,l=without (n:Int) P.ca ++ [((n:Int),aj s,dt)]:=⟨_,rfl⟩;obtain ⟨k,hk⟩:∃ k:Nat,k=l.length - P.size.toNat:=⟨_,rfl⟩;have hg:P.gone n s dt=((l.take k).filter fun x=>x.2.2).map fH:=by unfold Pgr.gone fZ;simp only [← hl,← hk]
 have hp:P.putc n s dt={ P with ca:=l.drop k }:=by unfold Pgr.putc fZ;simp only [← hl,← hk]
 have hfit:=h.fit;have hs1:=h.s1;have hs2:=h.s2;have hcore:=h.y.core;have hwl:(without (n:Int) P.ca).length≤P.ca.length:=List.length_filter_le _ _;have hll:l.length=(without (n:Int) P.ca).length+1:=by rw [hl,List.length_append];rfl
 have hnd:(l.map (·.1)).Nodup:=by rw [hl];exact pq hcore.kv _
 have hmem:∀ x ∈ l,(x ∈ P.ca∧x.1≠(n:Int))∨x=((n:Int),aj s,dt):=fun x hx=>by
  rw [hl] at hx;rcases List.mem_append.1 hx with hx | hx
  ·exact .inl (vmem_without.1 hx)
  ·exact .inr (List.mem_singleton.1 hx)
 have hlast:((n:Int),aj s,dt) ∈ l.drop k:=by
  have e:l.drop k=(without (n:Int) P.ca).drop k ++ [((n:Int),aj s,dt)]:=by rw [hl,List.drop_append_of_le_length (by omega)]
  rw [e];simp
 have hr:∀ x ∈ l,∃ (m:Nat) (t:By),x.1=m∧1≤m∧m<80∧x.2.1=aj t∧t.length=232∧(m<N'→t=fU B n s m):=fun x hx=>by
  rcases hmem x hx with ⟨hx,hxn⟩ | rfl
  ·obtain ⟨m,t,e1,e2,e3,e4,e5,e6⟩:=hcore.rng x hx;refine ⟨m,t,e1,e2,e3,e4,e5,fun hm=>?_⟩;rw [ji (by omega)];exact e6 (by omega)
  ·exact ⟨n,s,rfl,h1,hn,rfl,hs,fun _=>(vy B n s).symm⟩
 have hon:∀ x ∈ l,x.2.2=false→∀ m:Nat,x.1=m→m<N'→bu P m (fU B n s m):=fun x hx hc m hm hmN=>by
  rcases hmem x hx with ⟨hx,hxn⟩ | rfl
  ·have hne:m≠n:=by omega
   rw [ji hne];exact hcore.cln x hx hc m hm (by omega)
  ·have e:n=m:=Int.natCast_inj.1 hm;subst e;rw [vy];rcases hd with hd | hd
   ·rw [hd] at hc;cases hc
   ·exact hd hmN
 have hcl:∀ p ∈ P.gone n s dt,∃ x ∈ l.take k,x.2.2=true∧p=fH x:=fun p hp=>by
  rw [hg] at hp;obtain ⟨x,hx,rfl⟩:=List.mem_map.1 hp;obtain ⟨a,b⟩:=List.mem_filter.1 hx;exact ⟨x,a,b,rfl⟩
 have hstP:∀ m t,bu (P.putc n s dt) m t↔bu P m t:=fun m t=>by rw [hp];exact Iff.rfl
 have hcz:Cz (bu P) (l.drop k) (fU B n s) N' (P.gone n s dt):=by
  refine ⟨hnd.sublist ((List.drop_sublist _ _).map _),fun x hx=>hr x (List.mem_of_mem_drop hx),fun x hx=>hon x (List.mem_of_mem_drop hx),fun p hp=>?_,fun m m1 m2=>?_⟩
  ·obtain ⟨x,hx,-,rfl⟩:=hcl p hp;exact hr x (List.mem_of_mem_take hx)
  ·by_cases e:m=n
   ·subst e;exact .inl ⟨_,hlast,rfl⟩
   ·rw [ji e];rcases hcore.all m m1 (by omega) with ⟨x,hx,hxm⟩ | ⟨p,hp,-⟩ | ho
    ·have hxl:x ∈ l:=by rw [hl];exact List.mem_append_left _ (vmem_without.2 ⟨hx,by rw [hxm];omega⟩)
     rw [← List.take_append_drop k l] at hxl;rcases List.mem_append.1 hxl with hxt | hxd
     ·cases hdy:x.2.2
      ·exact .inr (.inr (hcore.cln x hx hdy m hxm (by omega)))
      ·exact .inr (.inl ⟨fH x,by rw [hg];exact List.mem_map.2 ⟨x,List.mem_filter.2 ⟨hxt,hdy⟩,rfl⟩,hxm⟩)
     ·exact .inl ⟨x,hxd,hxm⟩
    ·cases hp
    ·exact .inr (.inr ho)
 have hgl:(P.gone n s dt).length≤1:=by rw [hg,List.length_map];have:=List.length_filter_le (fun x:On=>x.2.2) (l.take k);rw [List.length_take] at this;omega
 have hjm:∀ its,JMode P C [] its→JMode (P.putc n s dt) C (P.gone n s dt) its:=fun its hm=>by
  have hhas:∀ m,(P.putc n s dt).hasN m=P.hasN m:=fun m=>by rw [hp];rfl
  have hca:∀ x ∈ l,∀ m:Nat,x.1=m→m<P.base→P.hasN m=false→x.2.2=false∧x.2.1=aj (C m):=fun x hx m hxm hmb hh=>by
   rcases hmem x hx with ⟨hx,hxn⟩ | rfl
   ·exact hm.ca x hx m hxm hmb hh
   ·have e:n=m:=Int.natCast_inj.1 hxm;subst e;obtain ⟨a,b⟩:=hj hm.lg hmb hh;exact ⟨a,by rw [b]⟩
  refine ⟨by rw [hp];exact hm.lg,by rw [hp];exact hm.nl,by rw [hp];exact hm.jz,by rw [hp];exact hm.mar,by rw [hp];exact hm.main,fun x hx m hxm hmb hh=>?_,fun p hpp m hpm hmb=>?_,by rw [hp];exact hm.ml,by rw [hp];exact hm.img,by rw [hp];exact hm.mf⟩
  ·rw [hhas] at hh;rw [hp] at hx hmb;exact hca x (List.mem_of_mem_drop hx) m hxm hmb hh
  ·obtain ⟨x,hx,hxd,rfl⟩:=hcl p hpp;rw [hhas];rw [hp] at hmb;cases hh:P.hasN m
   ·have:=hca x (List.mem_of_mem_take hx) m hpm hmb hh;rw [hxd] at this;cases this.1
   ·rfl
 have hbz:∀ x ∈ l,P.busy=false→x.2.2=false:=fun x hx hb0=>by
  rcases hmem x hx with ⟨hx,-⟩ | rfl
  ·exact (h.y.calm hb0).1 x hx
  ·cases dt
   ·rfl
   ·rw [hb rfl] at hb0;cases hb0
 have hY:Yz (P.putc n s dt) C N' (fU B n s) (P.gone n s dt):=by
  refine ⟨by rw [hp];exact h.y.d,?_,?_,by rw [hp];exact h.y.sp,by rw [hp];exact h.y.base,by rw [hp];exact h.y.ch,sP h.y.lenB hs,h.y.lenC,fun hb0=>?_⟩
  ·have e:bu (P.putc n s dt)=bu P:=funext fun m=>funext fun t=>propext (hstP m t)
   have e2:(P.putc n s dt).ca=l.drop k:=by rw [hp]
   rw [e,e2];exact hcz
  ·rcases h.y.md with ⟨its,hm⟩ | ⟨l',its,mk,hm⟩
   ·exact .inl ⟨its,hjm its hm⟩
   ·exact .inr ⟨l',its,mk,by rw [hp];exact ⟨hm.lg,hm.nt,hm.mar,hm.lz,hm.mark,hm.idle⟩⟩
  ·have hb1:P.busy=false:=by rw [hp] at hb0;exact hb0
   refine ⟨fun x hx=>?_,?_⟩
   ·rw [hp] at hx;exact hbz x (List.mem_of_mem_drop hx) hb1
   ·cases hgn:P.gone n s dt with
    | nil=>rfl
    | cons p r=> obtain ⟨x,hx,hxd,-⟩:=hcl p (by rw [hgn];simp);rw [hbz x (List.mem_of_mem_take hx) hb1] at hxd;cases hxd
 have hpl:(P.putc n s dt).lg=P.lg:=by rw [hp]
 obtain ⟨q1,q2,q3,q4,q5⟩:=pH (P.gone n s dt) (P.putc n s dt) hY (by rw [hpl];omega);have hsame:P.SameW (P.hold n s dt):=by
  have e1:P.SameW (P.putc n s dt):=by rw [hp];exact ⟨rfl,rfl,rfl⟩
  exact e1.trans q3.w
 have hca:(P.hold n s dt).ca=l.drop k:=by show ((P.putc n s dt).spills _).ca=_;rw [q3.1,hp]
 have hup:=h.up;refine ⟨hgl,q1,⟨⟨by rw [hsame.1];exact hup.over,by rw [hsame.1];exact hup.lost,q2.d.fine.up,?_⟩,by rw [hsame.1];exact hs1,by rw [hsame.1];exact hs2,q2,?_,hN⟩,hsame,?_,fun m=>(q5 m).trans (by rw [hp];rfl)⟩
 ·have h2:(P.hold n s dt).life=P.life:=by rw [hsame.1]
  rw [hsame.2.1,h2];exact hup.life
 ·have:(P.hold n s dt).size=P.size:=by rw [hsame.1]
  rw [hca,List.length_drop,this];omega
 ·rw [hpl] at q4;show aN ((P.putc n s dt).spills _).lg≤_;omega
theorem Uz.congr {P:Pgr} {C:Int→By} {N:Nat} {B B':Int→By} (h:Uz P C N B) (he:∀ m:Nat,m<N→B' m=B m) (hl:∀ n,(B' n).length=232):Uz P C N B':=
 ⟨h.up,h.s1,h.s2,⟨h.y.d,h.y.core.congr he,h.y.md,h.y.sp,h.y.base,h.y.ch,hl,h.y.lenC,h.y.calm⟩,h.fit,h.N⟩
theorem Uz.less {P:Pgr} {C:Int→By} {N N':Nat} {B:Int→By} (h:Uz P C N B) (hN:N'≤N):Uz P C N' B:=
 ⟨h.up,h.s1,h.s2,⟨h.y.d,h.y.core.less hN,h.y.md,h.y.sp,h.y.base,h.y.ch,h.y.lenB,h.y.lenC,h.y.calm⟩,h.fit,Nat.le_trans hN h.N⟩
end Go.Proofs.YtdmhbgpejppbkaaGreat
