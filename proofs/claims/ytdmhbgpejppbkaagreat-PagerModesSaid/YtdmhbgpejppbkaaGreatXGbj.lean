/- pager: toMain where pages stand on the disk; trim. pager: commit where no page stands on the disk yet; Commit. -/
import Derived.Test.YtdmhbgpejppbkaaGreatXGbi
import Derived.Test.YtdmhbgpejppbkaaGreatXGba
import Derived.Test.YtdmhbgpejppbkaaGreatXGaq
import Derived.Test.YtdmhbgpejppbkaaGreatXGbg
set_option maxRecDepth 100000
set_option maxHeartbeats 4000000
namespace Go.Proofs.YtdmhbgpejppbkaaGreat
open Go.Lib (hid)
open Go.RowKit Go.Maps
def Pgr.pre (P:Pgr):Pgr:=P.jot 0 (bh P.head)
def Pgr.main1 (P:Pgr) (l:List Pg):Pgr:={ P.pre.sealed.lays l with d:=((P.pre.sealed.lays l).d.setF aA Fi.settle).del aQ }
structure CanMain1 (P:Pgr) (l:List Pg):Prop where
 base:0<P.base
 good:P.head.Good
 j0:P.notes=none→P.d.file aQ=none
 ch:P.head.change+1<18446744073709551616
 note:∀ j,P.note.notes=some j→CanNote P.note.d j 0
 cs:∀ j,P.pre.notes=some j→CanSeal P.pre.d j
 lays:∀ k x,l[k]?=some x→0≤x.n∧CanLay (P.pre.sealed.lays (l.take k)).d x.n.toNat (bs x.s)
 fine:(P.pre.sealed.lays l).d.Fine
 file:∃ f,(P.pre.sealed.lays l).d.file aA=some f
 len:l.length≤1000
theorem rv {P:Pgr} {j:Jn} (hj:P.note.notes=some j):P.pre={ P.note with d:=j.noteD P.note.d 0 (bh P.head),notes:=some (j.noteJ 0) }:=by unfold Pgr.pre Pgr.jot;rw [hj]
theorem sX {P:Pgr} {j:Jn} (hj:P.notes=some j):P.sealed={ P with d:=j.sealD P.d,notes:=some j.sealJ,marred:=true }:=by
 have e:P.note=P:=by unfold Pgr.note;rw [hj]
 unfold Pgr.sealed Pgr.seal;rw [e,hj]
theorem rz (l:List Pg) (v:Value) (w:World) {L:PgL} {P:Pgr} (h:PgIs w L P) (hc:CanMain1 P l) (hv:Sl Pg.cells 2 w v l) (hx:∀ k,v.ownBlock=some k→¬ L.F k∧k<w.heap.size):
  Calls Tryz.prog 113 #[ai L.gp,v] w fun e w'=>e=.returned (.int .i64 0)∧PTo w L (P.main1 l) w':=by
 have HH:=hid h;have HN:=hid (ev _ HH.out hc.j0 hc.ch);have HC:=hid hc;have HV:=hid hv;have HX:=hid hx;obtain ⟨A,c,rfl⟩:=Sl.len' hv;clear h hc hv hx;unfold ai at *;go_enter Tryz.func113,Tryz.ntmps113;go_wp2_with fail;refine HN.out.mono ?_;rintro e w0 ⟨rfl,hto⟩;obtain ⟨L0,g0,p0,f0,c0⟩:=hto;obtain ⟨j0,hj0⟩:=dD P;rcases p0.jn with ⟨-,hno⟩ | ⟨g,x0,hN0,hnn,hxx⟩
 ·rw [hj0] at hno;cases hno
 obtain rfl:x0=j0:=by rw [hj0] at hnn;injection hnn with e;exact e.symm
 have hA0:=p0.apart;have jF0:∀ k,(k=g.1∨k=g.2)→qw L0.N k:=fun k e=>by rw [hN0];exact e
 have hC0:=ag p0.blk;have k8:=hC0.c8;have k2:=hC0.c2;have k3:=hC0.c3;have k4:=hC0.c4;have k5:=hC0.c5;have k6:=hC0.c6;have k7:=hC0.c7;have k24:=hC0.c24;have kl:=hC0.lt;have hnb:P.note.base=P.base∧P.note.head=P.head:=by unfold Pgr.note;split <;> exact ⟨rfl,rfl⟩
 rw [hN0] at k24;rw [hnb.1] at k8;rw [hnb.2] at k2 k3 k4 k5 k6 k7;rw [g0] at k2 k3 k4 k5 k6 k7 k8 k24 kl;unfold dq ai at k24;have hbp:decide ((P.base:Int) > 0)=true:=decide_eq_true (by have:=HC.out.base;omega);have hbp2:(0:Int)<(P.base:Int):=by have:=HC.out.base;omega
 have HEN:=hid (iU P.head w0 HC.out.good);unfold fJ lN at HEN;have HP0:=hid p0;have HG0:=hid (And.intro g0 (And.intro f0 c0));have HN0:=hid hN0
 have HJ0:=hid (show ∀ w2,Below w0.heap.size w0 w2→Calls Tryz.prog 142 #[ai g.1,.int .i64 0,.string (aj (bh P.head))] w2 fun e w'=>e=.returned (.int .i64 0)∧PTo w2 L0 P.pre w' from fun w2 hb=>by
  have p2:=p0.below hb;have hjn:=(jL x0 0 (bh P.head) w2 p2.dk (hxx.ch (S:=fun _=>False) (Ch.of_below hb) (fun h=>h) (fun h=>h)) (fun e=>hA0.dj _ e (jF0 _ (.inl rfl))) (fun e=>hA0.dj _ e (jF0 _ (.inr rfl))) (HC.out.note x0 hj0) (eW _));rw [show (((0:Nat)):Int)=0 from rfl] at hjn;refine hjn.mono ?_;rintro e w3 ⟨rfl,hr⟩;refine ⟨rfl,?_⟩;rw [rv hj0];exact p2.setDJ hN0 hr)
 unfold ai at HJ0;clear g0 p0 f0 c0 hj0 hN0 hnn hxx hA0 jF0 hC0 hnb;go_wp2_with fail;refine HEN.out.mono ?_;rintro e w2 ⟨rfl,hb2⟩;have HB2:=hid hb2;have k24:=(hb2.cell (p:=⟨L.gp,24,none⟩) kl).trans k24;have kl:=Nat.lt_of_lt_of_le kl hb2.size;clear hb2 k2 k3 k4 k5 k6 k7 k8;go_wp2_with fail;refine (HJ0.out w2 HB2.out).mono ?_;rintro e w1 ⟨rfl,hto⟩;obtain ⟨L1,g1,p1,f1,c1⟩:=PTo.and HG0.out.1 HG0.out.2.1 HG0.out.2.2 (PTo.pre hto HB2.out);clear hto k24 kl;obtain ⟨j,hj⟩:∃ j,P.pre.notes=some j:=by obtain ⟨j0,hj0⟩:=dD P;exact ⟨j0.noteJ 0,by rw [rv hj0]⟩
 rcases p1.jn with ⟨-,hno⟩ | ⟨g,x,hN,hnn,hxx⟩
 ·rw [hj] at hno;cases hno
 obtain rfl:x=j:=by rw [hj] at hnn;injection hnn with e;exact e.symm
 have hA1:=p1.apart;have jF:∀ k,(k=g.1∨k=g.2)→qw L1.N k:=fun k e=>by rw [hN];exact e
 have hC1:=ag p1.blk;have k24:=hC1.c24;have kl:=hC1.lt;rw [hN] at k24;unfold dq ai at k24;have HSL:=hid (jK x w1 p1.dk hxx (fun e=>hA1.dj _ e (jF _ (.inl rfl))) (fun e=>hA1.dj _ e (jF _ (.inr rfl))) (HC.out.cs x hj));unfold ai at HSL;have HP1:=hid p1;have HG1:=hid (And.intro g1 (And.intro f1 c1));have HN1:=hid hN;have HE1:=hid (show P.pre.sealed={ ({ P.pre with d:=x.sealD P.pre.d,notes:=some x.sealJ }:Pgr) with marred:=true } from sX hj);rw [g1] at k24 kl;have HV1:=hid (dV HV.out c1 (fun k hk=>(HX.out k hk).1));have HX1:=hid (fun k (hk:(Value.slice A l.length c).ownBlock=some k)=>(show ¬ L1.F k∧k<w1.heap.size from ⟨fun hf=>(f1 k hf).elim (HX.out k hk).1 (fun e=>by have:=(HX.out k hk).2;omega),Nat.lt_of_lt_of_le (HX.out k hk).2 c1.size⟩));clear g1 f1 c1 p1 hj hN hnn hxx hA1 jF hC1 HJ0;go_wp2_with fail;refine HSL.out.mono ?_;rintro e w2 ⟨rfl,hto⟩;have hto:=HP1.out.setDJ HN1.out hto;obtain ⟨L2,g2,p2,f2,c2⟩:=hto;have hg2:L2.gp=L.gp:=g2.trans HG1.out.1;have hq:PgIs (w2.setCell ⟨L.gp,25,none⟩ (.bool true)) L2 P.pre.sealed∧Ch (fun k=>k=L.gp) w2 (w2.setCell ⟨L.gp,25,none⟩ (.bool true)):=by have hc:=(Ch.refl (fun j=>j=L.gp) w2).setCell (p:=⟨L.gp,25,none⟩) rfl (.bool true);rw [← hg2];rw [← hg2] at hc;rw [HE1.out];exact ⟨p2.setBlk hc (ae p2.blk 25 (.bool true)) rfl rfl rfl rfl rfl ⟨p2.ok.s1,p2.ok.s2,p2.ok.base,p2.ok.hp,p2.ok.wp,p2.ok.nos⟩,hc⟩
 have hC2:=ag p2.blk;have k25:=hC2.c25;have z25:=hC2.fz 25;have kl2:=hC2.lt;rw [hg2] at k25 z25 kl2;have HQ:=hid hq;have hgl:∀ k,(Value.slice A l.length c).ownBlock=some k→k≠L.gp:=fun k hk e=>(HX1.out k hk).1 (.inl (e.trans HG1.out.1.symm))
 have HV3:=hid (dV (dV HV1.out c2 (fun k hk=>(HX1.out k hk).1)) hq.2 hgl);have HX3:=hid (fun k (hk:(Value.slice A l.length c).ownBlock=some k)=>(show ¬ L2.F k∧k<(w2.setCell ⟨L.gp,25,none⟩ (.bool true)).heap.size from ⟨fun hf=>(f2 k hf).elim (HX1.out k hk).1 (fun e=>by have:=(HX1.out k hk).2;omega),Nat.lt_of_lt_of_le (HX1.out k hk).2 (c2.trans (hq.2.mono fun k _ e=>.inl (e.trans HG1.out.1.symm))).size⟩));have HT3:=hid (show (∀ k,L2.F k→L.F k∨w.heap.size≤k)∧Ch L.F w (w2.setCell ⟨L.gp,25,none⟩ (.bool true)) from
  ⟨fun k hk=>(f2 k hk).elim (HG1.out.2.1 k) (fun e=>.inr (Nat.le_trans HG1.out.2.2.size e)),(HG1.out.2.2.then c2 HG1.out.2.1).trans (hq.2.mono fun k _ e=>.inl e)⟩)
 have HG2:=hid hg2;clear g2 f2 c2 p2 hC2 hq hg2 hgl k24 kl;go_upto_region 15 with fail
 generalize w2.setCell ⟨L.gp,25,none⟩ (.bool true)=w3 at *;clear k25 z25 kl2;go_wp2_with fail;go_loopw [57] (fun iv wr=>∃ k:Nat,k≤l.length∧iv=.int .i64 k∧PTo w3 L2 (P.pre.sealed.lays (l.take k)) wr) (fun iv _=>l.length - (intOf iv).toNat)
 case atStart=>exact ⟨0,Nat.zero_le _,rfl,PTo.refl HQ.out.1⟩
 case round=>
  obtain ⟨k,hk,rfl,hto⟩:=hrel;have HTO:=hid hto;obtain ⟨L4,g4,p4,f4,c4⟩:=hto;have HS4:=dV HV3.out c4 (fun k hk=>(HX3.out k hk).1);have HP4:=hid p4;have HG4:=hid (And.intro g4 (And.intro f4 c4));clear g4 p4 f4 c4;by_cases hlt:k<l.length
  ·obtain ⟨b,off,c',he,hbl,hcells⟩:=HS4.at1 hlt;injection he with he1 he2 he3
   subst he1 he3;have hcs:=HC.out.lays k l[k] (List.getElem?_eq_getElem hlt);have hup:=tt P.pre.sealed l hlt;have hk0:(0:Int)≤(k:Int):=by omega
   have hk1:(k:Int)<(l.length:Int):=by omega
   have HK:=hid (And.intro hk hlt);generalize l[k]=x at *;obtain ⟨xn,xs⟩:=x;obtain ⟨hx0,hx1⟩:=hcs;simp only at hx0 hx1 hup;obtain ⟨m,rfl⟩:∃ m:Nat,xn=m:=⟨xn.toNat,by omega⟩;obtain ⟨t,rfl⟩:∃ t,xs=aj t:=⟨bs xs,(eL xs).symm⟩;rw [aR,Int.toNat_natCast] at hx1 hup;have e0:wr.cell? ⟨b,off+k * 2,none⟩=some (.int .i64 m):=hcells 0 _ rfl;have e1:wr.cell? ⟨b,off+k * 2+1,none⟩=some (.string (aj t)):=hcells 1 _ rfl;have HUP:=hid hup;have hA:Below wr.heap.size wr (wr.alloc (kS m t)):=(Below.refl _ wr).alloc (Nat.le_refl _) _;have HA:=hid hA;have HLY:=hid (iI m t _ (HP4.out.below hA) hx1.fine hx1.few hx1.room hx1.lt hx1.len);rw [HG4.out.1,HG2.out] at HLY;unfold ai kS at HLY;have hl2:(k:Int)<1000:=by have:=HC.out.len;omega
   clear hcells hx1 hup HS4 hx0 hk hA;go_wp2_with fail;refine HLY.out.mono ?_;rintro e w5 ⟨rfl,hr⟩;have HR:=hid (show PTo w3 L2 (P.pre.sealed.lays (l.take (k+1))) w5 from by
    rw [HUP.out];exact PTo.and HG4.out.1 HG4.out.2.1 HG4.out.2.2 (PTo.pre hr HA.out))
   clear hr;go_wp2_with fail;go_roundw
   case rel=>exact ⟨k+1,by have:=HK.out;omega,by go_num,HR.out⟩
   case measure=>simp [intOf];omega
  ·obtain rfl:k=l.length:=by omega
   rw [List.take_length] at HP4;obtain ⟨fm,hfm⟩:=HC.out.file;have hsy:=HC.out.fine.sy (n:=aA) (by decide) hfm;have HSY:=hid (dJ aA (by decide) wr HP4.out.dk);rw [hsy.1,hsy.2] at HSY;have hC4:=ag HP4.out.blk;have c0:=hC4.c0;have hl4:=hC4.lt;rw [HG4.out.1,HG2.out] at c0 hl4;unfold cZ at HSY;rw [uw] at HSY;unfold ai at c0;clear hsy hfm hC4 hlt hk HS4;go_wp2_with fail;refine HSY.out.mono ?_;rintro e w5 ⟨rfl,hr⟩;have hto:=PTo.dk HP4.out hr;obtain ⟨L5,g5,p5,f5,c5⟩:=hto;obtain ⟨j5,hj5⟩:=iG P.pre;have hn5:(P.pre.sealed.lays l).notes=some j5:=(lB P.pre.sealed l).1.trans hj5;rcases p5.jn with ⟨-,hno⟩ | ⟨y,x5,hN5,hnn5,hx5⟩
   ·rw [show ({ P.pre.sealed.lays l with d:=(P.pre.sealed.lays l).d.setF aA Fi.settle }:Pgr).notes=(P.pre.sealed.lays l).notes from rfl,hn5] at hno;cases hno
   have hC5:=ag p5.blk;have c24:=hC5.c24;have hl5:=hC5.lt;rw [hN5,g5,HG4.out.1,HG2.out] at c24;rw [g5,HG4.out.1,HG2.out] at hl5;unfold dq ai at c24;have HEN:=hid (lJ x5 w5 p5.dk hx5 (HC.out.fine.setF));unfold ai at HEN;have HP5:=hid p5;have HG5:=hid (And.intro g5 (And.intro f5 c5));clear g5 p5 f5 c5 hC5 hj5 hn5 hnn5 hx5 hN5 hr;go_wp2_with fail;refine HEN.out.mono ?_;rintro e w6 ⟨rfl,hr⟩;have HF:=hid (show PTo w L (P.main1 l) w6 from by
    refine PTo.and HG2.out HT3.out.1 HT3.out.2 ?_;refine PTo.and HG4.out.1 HG4.out.2.1 HG4.out.2.2 ?_;exact PTo.and HG5.out.1 HG5.out.2.1 HG5.out.2.2 (PTo.dk HP5.out hr))
   clear hr;go_wp2_with fail;go_ret;exact ⟨rfl,HF.out⟩
def bz (d:Dk) (n:Nat):Dk:=if (n:Int)<d.size aA then d.setF aA (·.cut n) else d
theorem jt (w:World) {L:PgL} {P:Pgr} (h:PgIs w L P) (hf:P.d.Fine):
  Calls Tryz.prog 116 #[ai L.gp] w fun e w'=>e=.returned (.tuple #[])∧PTo w L { P with d:=bz P.d P.head.pages } w':=by
 have hC:=ag h.blk;have hl:=hC.lt;have c0:=hC.c0;have c3:=hC.c3;have HH:=hid h;have HSZ:=hid (fun (y:Up w)=>bp aA (by decide) y.w (h.dk.ch (Ch.of_below (S:=fun _=>False) y.h) (fun _ _ h=>h)));by_cases hlt:(P.head.pages:Int)<P.d.size aA
 ·have hgt:decide (P.d.size aA > (P.head.pages:Int))=true:=decide_eq_true (by omega);obtain ⟨fm,hfm,hfl⟩:∃ f,P.d.file aA=some f∧P.head.pages≤f.now.length:=by
   cases hfm:P.d.file aA with
   | none=>rw [Dk.size_none hfm] at hlt;omega
   | some f=>rw [Dk.size_some hfm] at hlt;exact ⟨f,rfl,by omega⟩
  have HE:=hid (show bz P.d P.head.pages=P.d.setF aA (·.cut P.head.pages) from if_pos hlt);obtain ⟨y1,y2⟩:=hf.cu (n:=aA) (by decide) hfm hfl;have HCU:=hid (fun (w1:World) (hb:Below w.heap.size w w1)=>(mg aA (by decide) (P.head.pages:Int) w1 (h.below hb).dk));rw [y1,y2] at HCU;have HGC:=hid (show (∀ (wa w9:World),(∃ L',L'.gd=L.D.gd∧DkIs w9 L' (P.d.setF aA (·.cut P.head.pages))∧(∀ k,L'.F k→L.D.F k∨wa.heap.size≤k)∧Ch L.D.F wa w9)→wa.cell? ⟨L.gp,0,none⟩=some (ai L.D.gd)→w9.cell? ⟨L.gp,0,none⟩=some (ai L.D.gd))∧(∀ (wa w9:World),(∃ L',L'.gd=L.D.gd∧DkIs w9 L' (P.d.setF aA (·.cut P.head.pages))∧(∀ k,L'.F k→L.D.F k∨wa.heap.size≤k)∧Ch L.D.F wa w9)→wa.cell? ⟨L.gp,3,none⟩=some (.int .i64 P.head.pages)→w9.cell? ⟨L.gp,3,none⟩=some (.int .i64 P.head.pages)) from
   ⟨fun wa w9 ⟨_,_,_,_,hc⟩ hb=>hc.cell hb h.apart.pd,fun wa w9 ⟨_,_,_,_,hc⟩ hb=>hc.cell hb h.apart.pd⟩)
  unfold ai cZ at *;rw [uw] at HSZ HCU;generalize P.d.size aA=sz at *;clear h hC hfm hfl y1 y2 hf;go_enter Tryz.func116,Tryz.ntmps116;go_upto_region 0 with fail
  refine am (by kernel_rfl) (by kernel_rfl) ?_;have f0:=ay c0 hl;have f3:=ay c3 hl
  repeat (go_big_quiet_step (first
   | (go_at_call 101;(with_reducible exact bm (HSZ.out _)))))
  refine wpQuiet_nil ?_;rintro w1 ⟨⟨_,hb1⟩,rfl⟩;have HB1:=hid hb1;clear f0 f3;have b0:w1.cell? ⟨L.gp,0,none⟩=some (.pointer (some ⟨L.D.gd,0,none⟩)):=(hb1.cell (p:=⟨L.gp,0,none⟩) hl).trans c0;have b3:w1.cell? ⟨L.gp,3,none⟩=some (.int .i64 P.head.pages):=(hb1.cell (p:=⟨L.gp,3,none⟩) hl).trans c3;have bl:L.gp<w1.heap.size:=Nat.lt_of_lt_of_le hl hb1.size;have HB0:=hid (And.intro b0 b3);clear hb1 c0 c3 hl;go_wp2_with fail
  go_region_held3 (fun w'=>w'.cell? ⟨L.gp,0,none⟩=some (.pointer (some ⟨L.D.gd,0,none⟩))∧w'.cell? ⟨L.gp,3,none⟩=some (.int .i64 P.head.pages)) (first | exact ⟨d0,d3⟩ | exact ⟨b0,b3⟩)
   (first
    | (go_at_call 176;(with_reducible refine (HCU.out _ ?ba).mono ?_);(case ba=>exact HB1.out.drew);rintro e w9 ⟨rfl,hto⟩;have d0:=HGC.out.1 w1.drew w9 hto HB0.out.1;have d3:=HGC.out.2 w1.drew w9 hto HB0.out.2;have HTO:=hid hto;clear hto))
  go_wp2_with fail;exact bodyPost_end (results_none rfl _ _ _) rfl ⟨rfl,by rw [HE.out];exact PTo.pre (PTo.dk (HH.out.below HB1.out.drew) HTO.out) HB1.out.drew⟩
 ·have hgt:decide (P.d.size aA > (P.head.pages:Int))=false:=decide_eq_false (by omega);have HE:=hid (show bz P.d P.head.pages=P.d from if_neg hlt);unfold ai cZ at *;rw [uw] at HSZ;generalize P.d.size aA=sz at *;clear h hC;go_enter Tryz.func116,Tryz.ntmps116;go_upto_region 0 with fail
  refine am (by kernel_rfl) (by kernel_rfl) ?_;have f0:=ay c0 hl;have f3:=ay c3 hl
  repeat (go_big_quiet_step (first
   | (go_at_call 101;(with_reducible exact bm (HSZ.out _)))))
  refine wpQuiet_nil ?_;rintro w1 ⟨⟨_,hb1⟩,rfl⟩;have HB1:=hid hb1;clear hb1;go_wp2_with fail;exact bodyPost_end (results_none rfl _ _ _) rfl ⟨rfl,by rw [HE.out];exact (PTo.refl HH.out).post HB1.out⟩
end Go.Proofs.YtdmhbgpejppbkaaGreat
namespace Go.Proofs.YtdmhbgpejppbkaaGreat
open Go.Lib (hid)
open Go.RowKit Go.Maps
theorem rr (w:World) {L:PgL} {P:Pgr} (h:PgIs w L P) (hle:P.d.size aA≤(P.head.pages:Int)):
  Calls Tryz.prog 116 #[ai L.gp] w fun e w'=>e=.returned (.tuple #[])∧Below w.heap.size w w':=by
 have hC:=ag h.blk;have hl:=hC.lt;have c0:=hC.c0;have c3:=hC.c3;have HSZ:=hid (fun (y:Up w)=>bp aA (by decide) y.w (h.dk.ch (Ch.of_below (S:=fun _=>False) y.h) (fun _ _ h=>h)));have hgt:decide (P.d.size aA > (P.head.pages:Int))=false:=decide_eq_false (by omega);unfold ai cZ at *;rw [uw] at HSZ;generalize P.d.size aA=sz at *;clear h hC;go_enter Tryz.func116,Tryz.ntmps116;go_upto_region 0 with fail
 refine am (by kernel_rfl) (by kernel_rfl) ?_;have f0:=ay c0 hl;have f3:=ay c3 hl
 repeat (go_big_quiet_step (first
  | (go_at_call 101;(with_reducible exact bm (HSZ.out _)))))
 refine wpQuiet_nil ?_;rintro w1 ⟨⟨_,hb1⟩,rfl⟩;have HB1:=hid hb1;clear hb1;go_wp2_with fail;exact bodyPost_end (results_none rfl _ _ _) rfl ⟨rfl,HB1.out⟩
theorem kr (w:World) {L:PgL} {P:Pgr} (h:PgIs w L P):Calls Tryz.prog 91 #[ai L.gp] w fun e w'=>e=.returned (.tuple #[])∧PTo w L P.ended w':=
 (gg w h).mono fun e w' ⟨he,hp,hc⟩=>⟨he,L.bare,rfl,hp,fun k hk=>(by
   rcases hk with hk | hk | hk | hk | hk | hk
   ·exact .inl (.inl hk)
   ·exact .inl (.inr (.inl hk))
   ·exact .inl (.inr (.inr (.inl hk)))
   ·exact hk.elim
   ·rcases hk with hk | hk <;> cases hk
   ·exact .inl (.inr (.inr (.inr (.inr (.inr hk)))))),hc.mono fun k _ e=>.inl e⟩
def Pgr.bump (P:Pgr):Pgr:={ P with work:={ P.work with change:=P.work.change+1 } }
def ez (n:Nat) (x:Pg):Bool:=decide (x.n<(n:Int))
def Pgr.comL (P:Pgr):List Pg:=(⟨0,aj (bh P.work)⟩:Pg) :: (aK P.ca).filter (ez P.work.pages)
def Pgr.based (P:Pgr):Pgr:={ P with head:=P.work,base:=P.work.pages }
def Pgr.tidy1 (P:Pgr) (x:Pg):Pgr:={ P with ca:=if ez P.head.pages x then bx x.n P.ca else without x.n P.ca }
def Pgr.tidy (P:Pgr) (l:List Pg):Pgr:=l.foldl Pgr.tidy1 P
def Pgr.com0 (P:Pgr):Pgr:=(((P.bump.main0 P.bump.comL).based).tidy (aK (P.bump.main0 P.bump.comL).ca)).ended
theorem ol (P:Pgr) (l:List Pg) {j:Nat} (h:j<l.length):P.tidy (l.take (j+1))=(P.tidy (l.take j)).tidy1 l[j]:=by unfold Pgr.tidy;rw [List.take_succ_eq_append_getElem h,List.foldl_append];rfl
theorem dy:∀ (l:List Pg) (P:Pgr),(P.tidy l).head=P.head∧(P.tidy l).size=P.size∧(P.tidy l).d=P.d
 | [],_=>⟨rfl,rfl,rfl⟩
 | x :: l,P=>dy l (P.tidy1 x)
def bj (x:Pg):Obj:=.cells (Pg.cells x).toArray 134 (0,0)
structure PgLp (w2 w4:World) (W:He) (ds:List Pg) (j:Nat) (pv:Value) (wr:World):Prop where
 own:Own Pg.cells 2 134 w2.heap.size wr pv ((⟨0,aj (bh W)⟩:Pg) :: (ds.take j).filter (ez W.pages))
 ch:Ch (fun k=>k=w2.heap.size) w4 wr
 at_:∀ k,pv.ownBlock=some k→k=w2.heap.size∨w4.heap.size≤k
theorem Ch.up {S:Nat→Prop} {w w':World} (h:Ch (fun k=>w.heap.size≤k) w w'):Ch S w w':=⟨h.os,h.tape,h.output,h.size,fun k hk _=>h.block k hk (by omega)⟩
theorem yu (P:Pgr):P.note.lg=P.lg:=by unfold Pgr.note;cases P.notes <;> rfl
theorem ye (P:Pgr):P.seal.lg=P.lg:=by unfold Pgr.seal;cases P.notes <;> rfl
theorem ua (P:Pgr):P.sealed.lg=P.lg:=(ye P.note).trans (yu P)
theorem tu:∀ (l:List Pg) (P:Pgr),(P.lays l).lg=P.lg
 | [],_=>rfl
 | x :: l,P=>tu l { P with d:=P.d.lay x.n.toNat (bs x.s) }
theorem wi (P:Pgr) (l:List Pg):(P.main0 l).lg=P.lg:=(tu l P.sealed).trans (ua P)
theorem kq:∀ (l:List Pg) (P:Pgr),(P.tidy l).lg=P.lg
 | [],_=>rfl
 | x :: l,P=>kq l (P.tidy1 x)
structure CanCom (P:Pgr):Prop where
 lg:P.lg=none
 good:P.bump.work.Good
 ch:P.work.change+1<18446744073709551616
 main:CanMain P.bump P.bump.comL
 nums:∀ x ∈ aK (P.bump.main0 P.bump.comL).ca,gE x.n
 few:(aK P.ca).length≤1000
 few2:(aK (P.bump.main0 P.bump.comL).ca).length≤1000
 hp:(P.bump.main0 P.bump.comL).work.pages≤4096
 size:((P.bump.main0 P.bump.comL)).d.size aA≤((P.bump.main0 P.bump.comL).work.pages:Int)
attribute [local go_sem ↓] fN
theorem oB (w:World) {L:PgL} {P:Pgr} (h:PgIs w L P) (hc:CanCom P):
  Calls Tryz.prog 57 #[ai L.gp] w fun e w'=>e=.returned (.int .i64 0)∧PTo w L P.com0 w':=by
 have HH:=hid h;have HC:=hid hc;have hC:=ag h.blk;have hl:=hC.lt;have c20:=hC.c20;have z20:=hC.fz 20;have hwr:IntKind.u64.wrap ((P.work.change:Int)+1)=(P.work.change:Int)+1:=IntWalk.u64_in _ (by have:=hc.ch;omega);have hto:PTo w L P.bump (w.setCell ⟨L.gp,20,none⟩ (.int .u64 ((P.work.change:Int)+1))):=h.cell 20 (.int .u64 ((P.work.change:Int)+1)) (by
  have:=ae h.blk 20 (.int .u64 ((P.work.change:Int)+1));exact this) rfl rfl rfl rfl rfl ⟨h.ok.s1,h.ok.s2,h.ok.base,h.ok.hp,h.ok.wp,h.ok.nos⟩
 unfold ai at *;clear h hc hC;go_enter Tryz.func57,Tryz.ntmps57;go_upto_region 2 with fail
 generalize w.setCell ⟨L.gp,20,none⟩ (.int .u64 ((P.work.change:Int)+1))=w1 at *;obtain ⟨L1,g1,p1,f1,k1⟩:=hto;have HP1:=hid (And.intro p1 (And.intro g1 (And.intro f1 k1)));have hC:=ag p1.blk;have hl:=hC.lt;have c15:=hC.c15;have c16:=hC.c16;have c17:=hC.c17;have c18:=hC.c18;have c19:=hC.c19;have c20:=hC.c20;rw [g1] at hl c15 c16 c17 c18 c19 c20;have HEN:=hid (iU P.bump.work w1 HC.out.good);unfold fJ lN at HEN;obtain ⟨W,hW⟩:∃ W,P.bump.work=W:=⟨_,rfl⟩;have HWW:=hid hW;rw [hW] at HEN c15 c16 c17 c18 c19 c20;clear hC g1 p1 f1 k1 hW z20 hwr;go_wp2_with fail;refine HEN.out.mono ?_;rintro e w2 ⟨rfl,hb2⟩;have HB2:=hid hb2;have HP2:=hid (HP1.out.1.below hb2);clear hb2 c15 c16 c17 c18 c19 c20 hl;have hA3:Below w2.heap.size w2 (w2.alloc (bj ⟨0,aj (bh W)⟩)):=(Below.refl _ w2).alloc (Nat.le_refl _) _;have hO3:Own Pg.cells 2 134 w2.heap.size (w2.alloc (bj ⟨0,aj (bh W)⟩)) (.slice (some ⟨w2.heap.size,0,none⟩) 1 1) [(⟨0,aj (bh W)⟩:Pg)]:=by have h1:=World.ownsRow_lit (base:=w2.heap.size) (e:=134) w2 (Pg.cells ⟨0,aj (bh W)⟩).toArray 1 (size:=2) (Nat.le_refl _) (by unfold maxLen;omega) rfl;unfold Own bj;simpa [Pg.cells] using h1
 have HA3:=hid hA3;have HO3:=hid hO3;have HP3:=hid (HP2.out.below hA3);have hC:=ag HP3.out.blk;have e1:=hC.c1;have el:=hC.lt;rw [HP1.out.2.1] at e1 el;have HDT:=hid (gB _ HP3.out.ca HP3.out.ok.s2);obtain ⟨ac,hac⟩:=HP3.out.ca.ptr;rw [hac] at e1 HDT;have hbc:P.bump.ca=P.ca:=rfl;rw [hbc] at HDT;obtain ⟨ds,hds⟩:∃ ds,aK P.ca=ds:=⟨_,rfl⟩;have HDS:=hid hds;have hdl:ds.length≤1000:=by rw [← hds];exact HC.out.few
 clear hA3 hO3 hC hac hbc hds;go_upto_region 6 with fail
 have hw3:∃ w3,w2.alloc (bj ⟨0,aj (bh W)⟩)=w3:=⟨_,rfl⟩;obtain ⟨w3,hw3⟩:=hw3;change Code.wp _ _ _ _ (w2.alloc (bj ⟨0,aj (bh W)⟩));have hs3:w3.heap.size=w2.heap.size+1:=by rw [← hw3];simp
 rw [hw3] at HA3 HO3 HP3 HDT e1 el ⊢;have HS3:=hid hs3;clear hw3 hs3;go_wp2_with fail;refine HDT.out.mono ?_;rintro e w4 ⟨v1,rfl,hsl,hnw,hb4⟩;rw [HDS.out] at hsl;obtain ⟨A1,c1,rfl⟩:=Sl.len' hsl;have HV:=hid (And.intro hsl (And.intro hnw hb4));have HP4:=hid (HP3.out.below hb4);have HO4:=hid (HO3.out.below hb4);clear hsl hnw hb4 e1 el;go_wp2_with fail;go_loopw [40,5] (fun iv pv wr=>∃ j:Nat,j≤ds.length∧iv=.int .i64 j∧PgLp w2 w4 W ds j pv wr) (fun iv _ _=>ds.length - (intOf iv).toNat)
 case atStart=>exact ⟨0,Nat.zero_le _,rfl,⟨by simpa using HO4.out,Ch.refl _ _,fun k hk=>.inl (by injection hk with hk;exact hk.symm)⟩⟩
 case round=>
  obtain ⟨j,hj,rfl,hI⟩:=hrel;have HI:=hid hI;have hFl:∀ k,L1.F k→k<w2.heap.size:=fun k hk=>HP2.out.lt hk
  have hs3:=HS3.out;have hs4:=HV.out.2.2.size;have hPr:=HP4.out.ch hI.ch fun k hk e=>by have:=hFl k hk;omega
  have HPR:=hid hPr;by_cases hlt:j<ds.length
  ·obtain ⟨b,off,c',he,hbl,hcells⟩:=(dV HV.out.1 hI.ch fun k hk e=>by have:=HV.out.2.1 k hk;omega).at1 hlt;injection he with he1 he2 he3
   subst he1 he3;have hj0:(0:Int)≤(j:Int):=by omega
   have hj1:(j:Int)<(ds.length:Int):=by omega
   have HJ:=hid (And.intro hj hlt);have HT:=hid (show ds.take (j+1)=ds.take j ++ [ds[j]] from List.take_succ_eq_append_getElem hlt);generalize ds[j]=x at *;obtain ⟨xn,xs⟩:=x;have x0:wr.cell? ⟨b,off+j * 2,none⟩=some (.int .i64 xn):=hcells 0 _ rfl;have x1:wr.cell? ⟨b,off+j * 2+1,none⟩=some (.string xs):=hcells 1 _ rfl;have HX:=hid (show Below wr.heap.size wr (wr.alloc (bj ⟨xn,xs⟩))∧(wr.alloc (bj ⟨xn,xs⟩)).heap[wr.heap.size]?=some (bj ⟨xn,xs⟩) from ⟨(Below.refl _ wr).alloc (Nat.le_refl _) _,af rfl⟩);clear hcells hI hFl hs3 hs4 hPr hj he2;go_upto_region 9 with fail
   have hwx:∃ wx,wr.alloc (bj ⟨xn,xs⟩)=wx:=⟨_,rfl⟩;obtain ⟨wx,hwx⟩:=hwx;change Code.wp _ _ _ _ (wr.alloc (bj ⟨xn,xs⟩));rw [hwx] at HX ⊢;clear hwx x0 x1 hbl;have hC:=ag (HPR.out.below HX.out.1).blk;have c16:=hC.c16;have cl:=hC.lt;rw [HP1.out.2.1,HWW.out] at c16;rw [HP1.out.2.1] at cl;have n0:wx.cell? ⟨wr.heap.size,0,none⟩=some (.int .i64 xn):=aa HX.out.2 0;have n1:wx.cell? ⟨wr.heap.size,1,none⟩=some (.string xs):=aa HX.out.2 1;have nl:=ab HX.out.2;clear hC;by_cases hin:xn<(W.pages:Int)
   ·have HIN:=hid (show (ds.take (j+1)).filter (ez W.pages)=(ds.take j).filter (ez W.pages) ++ [⟨xn,xs⟩] by rw [HT.out,List.filter_append];congr 1;simp [ez,hin]);go_wp2_with fail;go_region;have hbA:Below wr.heap.size wr (wx.drew.alloc (bj ⟨xn,xs⟩)):=(HX.out.1.drew).alloc (by have:=HX.out.1.size;simpa using this) _;have hln:((⟨0,aj (bh W)⟩:Pg) :: (ds.take j).filter (ez W.pages)).length≤1001:=by have:=List.length_filter_le (ez W.pages) (ds.take j);rw [List.length_cons];rw [List.length_take] at this;omega
    obtain ⟨v',w6,hr,ho,hg,hat⟩:=aZ (P:=Tryz.prog) Av 135 (HI.out.own.below hbA)
     (Sl.one (w0:=wx.drew) (g:=wx.heap.size) (e:=134) (cs:=(Pg.cells ⟨xn,xs⟩).toArray) (⟨xn,xs⟩:Pg) (c:=1) rfl Pg.len (by simp)) (by unfold maxLen;simp only [List.length_cons,List.length_nil] at hln ⊢;omega) (by simp only [List.length_cons,List.length_nil] at hln ⊢;omega) (by have h1:=hbA.size;have h2:=HI.out.ch.size;have h3:=HV.out.2.2.size;have h4:=HS3.out;omega)
    have hr':(dU #[135,135] 135 #[u5,.slice (some ⟨wx.heap.size,0,none⟩) 1 1]).run Tryz.prog (wx.alloc (bj ⟨xn,xs⟩)).drew=.ok v' w6:=hr;have HN:=hid (show PgLp w2 w4 W ds (j+1) v' w6 from by
     have hc5:Ch (fun k=>k=w2.heap.size) w4 (wx.drew.alloc (bj ⟨xn,xs⟩)):=HI.out.ch.trans (Ch.of_below hbA);have hc6:Ch (fun k=>u5.ownBlock=some k) (wx.drew.alloc (bj ⟨xn,xs⟩)) w6:=Ch.of_grown hg fun k hk=>hk
     refine ⟨by rw [HIN.out];simpa using ho,hc5.then hc6 fun k hk=>HI.out.at_ k hk,fun k hk=>?_⟩;rcases hat with hat | hat
     ·exact HI.out.at_ k (hat ▸ hk)
     ·rw [hat] at hk;injection hk with hk
      right;have:=hc5.size;omega)
    unfold bj Pg.cells at hr';clear hr ho hg hat hbA hln;go_wp2_with fail;go_roundw
    case rel=>exact ⟨j+1,by have:=HJ.out;omega,by go_num,HN.out⟩
    case measure=>simp [intOf];omega
   ·have HIN:=hid (show (ds.take (j+1)).filter (ez W.pages)=(ds.take j).filter (ez W.pages) by rw [HT.out,List.filter_append];simp [ez,hin]);have hin2:(W.pages:Int)≤xn:=by omega
    go_wp2_with fail;go_region;have HN:=hid (show PgLp w2 w4 W ds (j+1) u5 wx.drew from ⟨by rw [HIN.out];exact (HI.out.own.below HX.out.1).drew,(HI.out.ch.trans (Ch.of_below HX.out.1)).drew,HI.out.at_⟩);go_wp2_with fail;go_roundw
    case rel=>exact ⟨j+1,by have:=HJ.out;omega,by go_num,HN.out⟩
    case measure=>simp [intOf];omega
  ·obtain rfl:j=ds.length:=by omega
   clear hlt hj hFl hs3 hs4 hPr hI;have HIN:=hid (show ((⟨0,aj (bh W)⟩:Pg) :: (ds.take ds.length).filter (ez W.pages))=P.bump.comL by rw [List.take_length];unfold Pgr.comL;rw [HWW.out,show P.bump.ca=P.ca from rfl,HDS.out]);have hown:=HI.out.own;rw [HIN.out] at hown;obtain ⟨A5,c5,he5,-⟩:=aD hown;have hC:=ag HPR.out.blk;have cl:=hC.lt;have c9:=hC.c9;rw [HPR.out.nolg HC.out.lg] at c9;unfold bn at c9;rw [HP1.out.2.1] at cl c9
   have HTM:=hid (kP P.bump.comL u5 wr HPR.out HC.out.main (hown.sl Pg.len) (fun k hk=>⟨fun e=>by
    have h1:=HP2.out.lt e;have h2:=HV.out.2.2.size;have h3:=HS3.out;rcases HI.out.at_ k hk with h | h <;> omega,by
    exact (hown.lt k hk).2⟩))
   rw [HP1.out.2.1] at HTM;unfold ai at HTM;rw [he5] at HTM ⊢;clear hown he5 hC;go_wp2_with fail;refine HTM.out.mono ?_;rintro e w6 ⟨rfl,hto⟩;have HT6:=hid (show PTo w L (P.bump.main0 P.bump.comL) w6 from by
    refine PTo.and HP1.out.2.1 HP1.out.2.2.1 HP1.out.2.2.2 ?_;obtain ⟨L6,q1,q2,q3,q4⟩:=hto;have hFl:∀ k,L1.F k→k<w2.heap.size:=fun k hk=>HP2.out.lt hk
    have hsz:w1.heap.size≤w2.heap.size:=HB2.out.size;have h2w:Ch (fun k=>w1.heap.size≤k) w1 wr:=(((Ch.of_below HB2.out).trans (Ch.of_below HA3.out)).trans (Ch.of_below HV.out.2.2)).trans (HI.out.ch.mono fun k _ e=>by rw [e];exact hsz);refine ⟨L6,q1,q2,fun k hk=>(q3 k hk).imp id fun e=>Nat.le_trans h2w.size e,h2w.up.trans q4⟩)
   clear hto;obtain ⟨Q,hQ⟩:∃ Q,Q=P.bump.main0 P.bump.comL:=⟨_,rfl⟩;rw [← hQ] at HT6;have HQ:=hid hQ;obtain ⟨L6,q1,q2,q3,q4⟩:=HT6.out;have HP6:=hid (And.intro q2 (And.intro q1 (And.intro q3 q4)));have hC:=ag q2.blk;have d15:=hC.c15;have d16:=hC.c16;have d17:=hC.c17;have d18:=hC.c18;have d19:=hC.c19;have d20:=hC.c20;have d2:=hC.c2;have d3:=hC.c3;have d4:=hC.c4;have d5:=hC.c5;have d6:=hC.c6;have d7:=hC.c7;have d8:=hC.c8;have y2:=hC.fz 2;have y3:=hC.fz 3;have y4:=hC.fz 4;have y5:=hC.fz 5;have y6:=hC.fz 6;have y7:=hC.fz 7;have y8:=hC.fz 8;have dl:=hC.lt;have hhp:Q.work.pages≤4096:=by rw [hQ];exact HC.out.hp
   have hW:PgIs (((((((w6.setCell ⟨L6.gp,2,none⟩ (.int .i64 Q.work.mode)).setCell ⟨L6.gp,3,none⟩ (.int .i64 Q.work.pages)).setCell ⟨L6.gp,4,none⟩ (.int .i64 Q.work.trunk)).setCell ⟨L6.gp,5,none⟩ (.int .i64 Q.work.spare)).setCell ⟨L6.gp,6,none⟩ (.int .i64 Q.work.root)).setCell ⟨L6.gp,7,none⟩ (.int .u64 Q.work.change)).setCell ⟨L6.gp,8,none⟩ (.int .i64 Q.work.pages)) L6 Q.based∧Ch (fun k=>k=L6.gp) w6 (((((((w6.setCell ⟨L6.gp,2,none⟩ (.int .i64 Q.work.mode)).setCell ⟨L6.gp,3,none⟩ (.int .i64 Q.work.pages)).setCell ⟨L6.gp,4,none⟩ (.int .i64 Q.work.trunk)).setCell ⟨L6.gp,5,none⟩ (.int .i64 Q.work.spare)).setCell ⟨L6.gp,6,none⟩ (.int .i64 Q.work.root)).setCell ⟨L6.gp,7,none⟩ (.int .u64 Q.work.change)).setCell ⟨L6.gp,8,none⟩ (.int .i64 Q.work.pages)):=by have hc:=(((((((Ch.refl (fun k=>k=L6.gp) w6).setCell (p:=⟨L6.gp,2,none⟩) rfl (.int .i64 Q.work.mode)).setCell (p:=⟨L6.gp,3,none⟩) rfl (.int .i64 Q.work.pages)).setCell (p:=⟨L6.gp,4,none⟩) rfl (.int .i64 Q.work.trunk)).setCell (p:=⟨L6.gp,5,none⟩) rfl (.int .i64 Q.work.spare)).setCell (p:=⟨L6.gp,6,none⟩) rfl (.int .i64 Q.work.root)).setCell (p:=⟨L6.gp,7,none⟩) rfl (.int .u64 Q.work.change)).setCell (p:=⟨L6.gp,8,none⟩) rfl (.int .i64 Q.work.pages);exact ⟨q2.setBlk (P':=Q.based) hc (ae (mp q2.blk Q.work) 8 (.int .i64 Q.work.pages)) rfl rfl rfl rfl rfl ⟨q2.ok.s1,q2.ok.s2,hhp,hhp,q2.ok.wp,q2.ok.nos⟩,hc⟩
   rw [q1] at hW d15 d16 d17 d18 d19 d20 d2 d3 d4 d5 d6 d7 d8 y2 y3 y4 y5 y6 y7 y8 dl;have HWW7:=hid hW;clear hC q1 q2 q3 q4 hhp hQ hW cl c9;go_upto_region 17 with fail
   go_region;obtain ⟨w7,hw7⟩:∃ w7,w7=(((((((w6.setCell ⟨L.gp,2,none⟩ (.int .i64 Q.work.mode)).setCell ⟨L.gp,3,none⟩ (.int .i64 Q.work.pages)).setCell ⟨L.gp,4,none⟩ (.int .i64 Q.work.trunk)).setCell ⟨L.gp,5,none⟩ (.int .i64 Q.work.spare)).setCell ⟨L.gp,6,none⟩ (.int .i64 Q.work.root)).setCell ⟨L.gp,7,none⟩ (.int .u64 Q.work.change)).setCell ⟨L.gp,8,none⟩ (.int .i64 Q.work.pages)).drew:=⟨_,rfl⟩;have hp7:PgIs w7 L6 Q.based∧Ch (fun k=>k=L.gp) w6 w7:=by rw [hw7];exact ⟨HWW7.out.1.ch (S:=fun _=>False) (Ch.drew (Ch.refl _ _)) (fun _ _ h=>h),HWW7.out.2.drew⟩
   rw [← hw7];clear hw7 HWW7 d15 d16 d17 d18 d19 d20 d2 d3 d4 d5 d6 d7 d8 y2 y3 y4 y5 y6 y7 y8 dl;have HP7:=hid hp7;have hC:=ag hp7.1.blk;have e1:=hC.c1;have el:=hC.lt;rw [HP6.out.2.1] at e1 el;have HD2:=hid (gB w7 hp7.1.ca hp7.1.ok.s2);obtain ⟨a7,ha7⟩:=hp7.1.ca.ptr;have HA7:=hid ha7;rw [ha7] at e1 HD2;obtain ⟨es,hes⟩:∃ es,aK Q.based.ca=es:=⟨_,rfl⟩;have HES:=hid hes;have hel:es.length≤1000:=by rw [← hes,show Q.based.ca=Q.ca from rfl,HQ.out];exact HC.out.few2
   clear hC hp7 ha7 hes;go_wp2_with fail;refine HD2.out.mono ?_;rintro e w8 ⟨v2,rfl,hsl,hnw,hb8⟩;rw [HES.out] at hsl;obtain ⟨A2,c2,rfl⟩:=Sl.len' hsl;have HV2:=hid (And.intro hsl (And.intro hnw hb8));have HP8:=hid (HP7.out.1.below hb8);clear hsl hnw hb8 e1 el;go_wp2_with fail;obtain ⟨wo,hwo⟩:∃ wo:World,wo=wr:=⟨_,rfl⟩;subst hwo;go_loopw [93] (fun iv wr=>∃ j:Nat,j≤es.length∧iv=.int .i64 j∧PTo w8 L6 (Q.based.tidy (es.take j)) wr) (fun iv _=>es.length - (intOf iv).toNat)
   case atStart=>exact ⟨0,Nat.zero_le _,rfl,PTo.refl HP8.out⟩
   case round=>
    obtain ⟨j,hj,rfl,hto⟩:=hrel;obtain ⟨L9,r1,r2,r3,r4⟩:=hto;by_cases hlt:j<es.length
    ·obtain ⟨b,off,c',he,hbl,hcells⟩:=(dV (HV2.out.1) r4 fun k hk e=>by have:=HV2.out.2.1 k hk;have:=HP7.out.1.lt e;omega).at1 hlt;injection he with he1 he2 he3
     subst he1 he3;have hj0:(0:Int)≤(j:Int):=by omega
     have hj1:(j:Int)<(es.length:Int):=by omega
     have HJ:=hid (And.intro hj hlt);have HT:=hid (ol Q.based es hlt);have hwf:gE (es[j]).n:=HC.out.nums _ (by rw [← HQ.out,show Q.ca=Q.based.ca from rfl,HES.out];exact List.getElem_mem hlt);generalize es[j]=x at *;obtain ⟨xn,xs⟩:=x;have x0:wr.cell? ⟨b,off+j * 2,none⟩=some (.int .i64 xn):=hcells 0 _ rfl;have x1:wr.cell? ⟨b,off+j * 2+1,none⟩=some (.string xs):=hcells 1 _ rfl;have HX:=hid (show Below wr.heap.size wr (wr.alloc (bj ⟨xn,xs⟩))∧(wr.alloc (bj ⟨xn,xs⟩)).heap[wr.heap.size]?=some (bj ⟨xn,xs⟩) from ⟨(Below.refl _ wr).alloc (Nat.le_refl _) _,af rfl⟩);have HR:=hid (And.intro r1 (And.intro r2 (And.intro r3 r4)));have HWF:=hid hwf;have hth:=dy (es.take j) Q.based;have HTH:=hid (show (Q.based.tidy (es.take j)).head.pages=Q.work.pages by rw [hth.1];rfl);have HSS:=hid (show (Q.based.tidy (es.take j)).size=Q.size from hth.2.1);clear hcells hj he2 r1 r2 r3 r4 hwf hth;go_upto_region 21 with fail
     have hwx:∃ wx,wr.alloc (bj ⟨xn,xs⟩)=wx:=⟨_,rfl⟩;obtain ⟨wx,hwx⟩:=hwx;change Code.wp _ _ _ _ (wr.alloc (bj ⟨xn,xs⟩));rw [hwx] at HX ⊢;clear hwx x0 x1 hbl;have HP9:=hid (HR.out.2.1.below HX.out.1);have hC:=ag HP9.out.blk;have b1:=hC.c1;have b3:=hC.c3;have bl:=hC.lt;rw [HTH.out] at b3;obtain ⟨a9,ha9⟩:=HP9.out.ca.ptr;rw [ha9] at b1;rw [HR.out.1,HP6.out.2.1] at b1 b3 bl;have n0:wx.cell? ⟨wr.heap.size,0,none⟩=some (.int .i64 xn):=aa HX.out.2 0;have nl:=ab HX.out.2;have hfr:¬ L9.Fc wr.heap.size:=fun e=>by have:=HR.out.2.1.calt _ e;omega
     have hgpc:¬ L9.Fc L.gp:=fun e=>by have:=HR.out.2.1.apart.pc;rw [HR.out.1,HP6.out.2.1] at this;exact this e
     have HF:=hid (And.intro hfr (And.intro hgpc ha9));have HARM:=hid (show ∀ (wa w9:World) (ca:List On),Below wx.heap.size wx wa→wa.cell? ⟨L.gp,1,none⟩=some (.pointer (some a9))→wa.cell? ⟨wr.heap.size,0,none⟩=some (.int .i64 xn)→ca=(if ez Q.work.pages ⟨xn,xs⟩ then bx xn (Q.based.tidy (es.take j)).ca else without xn (Q.based.tidy (es.take j)).ca)→Ca w9 L9.Fc (.pointer (some a9)) (Q.based.tidy (es.take j)).size ca→Ch L9.Fc wa w9→
       Hid (PTo w8 L6 (Q.based.tidy (es.take (j+1))) w9)∧w9.cell? ⟨L.gp,1,none⟩=some (.pointer (some a9))∧w9.cell? ⟨wr.heap.size,0,none⟩=some (.int .i64 xn) from fun wa w9 ca hwa h1 h2 hca h3 h4=>by
      refine ⟨hid ?_,h4.cell h1 hgpc,h4.cell h2 hfr⟩;rw [HT.out];have e:(Q.based.tidy (es.take j)).tidy1 ⟨xn,xs⟩={ Q.based.tidy (es.take j) with ca:=ca }:=by unfold Pgr.tidy1;rw [HTH.out,hca]
      rw [e];rw [← ha9] at h3;refine PTo.and HR.out.1 HR.out.2.2.1 HR.out.2.2.2 (PTo.pre (PTo.pre ((HP9.out.below hwa).getCa h3 h4) hwa) HX.out.1))
     clear hC hfr hgpc;by_cases hin:xn<(Q.work.pages:Int)
     ·have HCL:=hid (fun (wa:World) (hwa:Below wx.heap.size wx wa)=>mn xn wa (HP9.out.below hwa).ca HWF.out);have HIF:=hid (show bx xn (Q.based.tidy (es.take j)).ca=(if ez Q.work.pages ⟨xn,xs⟩ then bx xn (Q.based.tidy (es.take j)).ca else without xn (Q.based.tidy (es.take j)).ca) by unfold ez;rw [if_pos (by simpa using hin)]);rw [ha9] at HCL;clear ha9;go_wp2_with fail;go_region;have f1:wx.drew.cell? ⟨L.gp,1,none⟩=some (.pointer (some a9)):=b1;have f0:wx.drew.cell? ⟨wr.heap.size,0,none⟩=some (.int .i64 xn):=n0;have fl:L.gp<wx.drew.heap.size:=bl;have fn:wr.heap.size<wx.drew.heap.size:=nl;have HF1:=hid (And.intro f1 f0);clear b1 b3 bl n0 nl;go_wp2_with fail
      go_region_held3 (fun w'=>w'.cell? ⟨L.gp,1,none⟩=some (.pointer (some a9))∧w'.cell? ⟨wr.heap.size,0,none⟩=some (.int .i64 xn)) (first | exact ⟨d1,d0⟩ | exact ⟨f1,f0⟩)
       (first
        | (go_at_call 114;(with_reducible refine (HCL.out _ ?ba).mono ?_);(case ba=>exact ((Below.refl wx.heap.size wx).drew).drew);rintro e w9 ⟨rfl,h1,h2⟩;obtain ⟨HR9,d1,d0⟩:=HARM.out _ w9 _ ((Below.refl wx.heap.size wx).drew.drew) HF1.out.1 HF1.out.2 HIF.out h1 h2;clear h1 h2))
      go_wp2_with fail;go_roundw
      case rel=>exact ⟨j+1,by have:=HJ.out;omega,by go_num,HR9.out⟩
      case measure=>simp [intOf];omega
     ·have hin2:(Q.work.pages:Int)≤xn:=by omega
      have HCL:=hid (fun (wa:World) (hwa:Below wx.heap.size wx wa)=>gV xn wa (HP9.out.below hwa).ca HWF.out);have HIF:=hid (show without xn (Q.based.tidy (es.take j)).ca=(if ez Q.work.pages ⟨xn,xs⟩ then bx xn (Q.based.tidy (es.take j)).ca else without xn (Q.based.tidy (es.take j)).ca) by unfold ez;rw [if_neg (by simpa using hin2)]);rw [ha9] at HCL;clear ha9;go_wp2_with fail;go_region;have f1:wx.drew.cell? ⟨L.gp,1,none⟩=some (.pointer (some a9)):=b1;have f0:wx.drew.cell? ⟨wr.heap.size,0,none⟩=some (.int .i64 xn):=n0;have fl:L.gp<wx.drew.heap.size:=bl;have fn:wr.heap.size<wx.drew.heap.size:=nl;have HF1:=hid (And.intro f1 f0);clear b1 b3 bl n0 nl;go_wp2_with fail
      go_region_held3 (fun w'=>w'.cell? ⟨L.gp,1,none⟩=some (.pointer (some a9))∧w'.cell? ⟨wr.heap.size,0,none⟩=some (.int .i64 xn)) (first | exact ⟨d1,d0⟩ | exact ⟨f1,f0⟩)
       (first
        | (go_at_call 115;(with_reducible refine (HCL.out _ ?ba).mono ?_);(case ba=>exact ((Below.refl wx.heap.size wx).drew).drew);rintro e w9 ⟨rfl,h1,h2⟩;obtain ⟨HR9,d1,d0⟩:=HARM.out _ w9 _ ((Below.refl wx.heap.size wx).drew.drew) HF1.out.1 HF1.out.2 HIF.out h1 h2;clear h1 h2))
      go_wp2_with fail;go_roundw
      case rel=>exact ⟨j+1,by have:=HJ.out;omega,by go_num,HR9.out⟩
      case measure=>simp [intOf];omega
    ·obtain rfl:j=es.length:=by omega
     rw [List.take_length] at r2;have hth:=dy es Q.based;have HEND:=hid (kr wr r2);rw [r1,HP6.out.2.1] at HEND;have HR:=hid (And.intro r1 (And.intro r2 (And.intro r3 r4)));unfold ai at HEND;clear r1 r2 r3 r4 hlt hj;go_wp2_with fail;refine HEND.out.mono ?_;rintro e w9 ⟨rfl,hr⟩;obtain ⟨L5,s1,s2,s3,s4⟩:=hr;have hC:=ag s2.blk;have b9:=hC.c9;rw [s2.nolg (by
      show (Q.based.tidy es).lg=none;rw [kq];show Q.lg=none;rw [show Q=P.bump.main0 P.bump.comL from HQ.out,wi];exact HC.out.lg)] at b9
     unfold bn at b9;have bl:=hC.lt;rw [s1,HR.out.1,HP6.out.2.1] at b9 bl;have HTR:=hid (rr w9 s2 (by
      show (Q.based.tidy es).d.size aA≤((Q.based.tidy es).head.pages:Int);rw [hth.1,hth.2.2];show Q.d.size aA≤(Q.work.pages:Int);rw [HQ.out];exact HC.out.size))
     rw [s1,HR.out.1,HP6.out.2.1] at HTR;unfold ai at HTR;have HFIN:=hid (show PTo w L P.com0 w9 from by
      have e:P.com0=(Q.based.tidy es).ended:=by unfold Pgr.com0;rw [← HQ.out,← HES.out];rfl
      rw [e];refine PTo.and HP6.out.2.1 HP6.out.2.2.1 HP6.out.2.2.2 ?_;refine PTo.and rfl (fun _ hk=>.inl hk) (HP7.out.2.mono fun k _ e=>.inl (e.trans HP6.out.2.1.symm)) ?_;refine PTo.pre ?_ HV2.out.2.2;refine PTo.and HR.out.1 HR.out.2.2.1 HR.out.2.2.2 ?_;exact ⟨L5,s1,s2,s3,s4⟩)
     clear s1 s2 s3 s4 hC hth;go_wp2_with fail;refine HTR.out.mono ?_;rintro e w10 ⟨rfl,hb⟩;have HFF:=hid (HFIN.out.post hb);clear hb;go_wp2_with fail;go_ret;exact ⟨rfl,HFF.out⟩
end Go.Proofs.YtdmhbgpejppbkaaGreat
