/- pager: lay. pager: spill. log: sum, Len, keep. log: keep. log: Open of a disk without a log; Sync, End, Back. log: Back, Get. log: Add. -/
import Derived.Test.YtdmhbgpejppbkaaGreatXGav
import Derived.Test.YtdmhbgpejppbkaaGreatXGas
set_option maxRecDepth 100000
set_option maxHeartbeats 4000000
namespace Go.Proofs.YtdmhbgpejppbkaaGreat
open Go.Lib (hid)
open Go.RowKit Go.Maps
theorem uw:aj aA=⟨#[100,97,116,97]⟩:=rfl
theorem jnS:aj aQ=⟨#[106,111,117,114,110,97,108]⟩:=rfl
theorem loS:aj bf=⟨#[108,111,103]⟩:=rfl
structure FillOk (d d':Dk) (k:Nat):Prop where
 fine:d'.Fine
 len:d'.len aA=d.len aA+k
 total:d'.total=d.total+k
 room:d'.room=d.room
 few:d'.file aA=none→d'.files.length<8
theorem tB {d:Dk} (hf:d.Fine) (hw:d.file aA=none→d.files.length<8):FillOk d (d.fill aA 0) 0:=⟨hf,rfl,rfl,rfl,hw⟩
theorem tA {d:Dk} {k:Nat} (h:FillOk d (d.fill aA k) k) (hok:(d.fill aA k).Ok):FillOk d (d.fill aA (k+1)) (k+1) where
 fine:=h.fine.wr
 len:=by show ((d.fill aA k).wr aA (d.len aA+k) zeroS).len aA=_;rw [Dk.len_wr hok,h.len,if_pos ⟨rfl,rfl⟩];omega
 total:=by show ((d.fill aA k).wr aA (d.len aA+k) zeroS).total=_;rw [Dk.total_wr hok,h.len,if_pos rfl,h.total];omega
 room:=h.room
 few:=fun hn=>by
  have:((d.fill aA k).wr aA (d.len aA+k) zeroS).file aA=none:=hn;rw [Dk.wr_file hok,if_pos rfl] at this;cases this
theorem jg:zeroS.length=256:=List.length_replicate
theorem ro (w:World):Calls Tryz.prog 82 #[.string ⟨#[0]⟩,.int .i64 256] w fun e w'=>e=.returned (.string (aj zeroS))∧Below w.heap.size w w':=by have h:=Tryz.strings_Repeat ⟨#[0]⟩ 256 w (by omega) (by decide);rw [show (⟨#[0]⟩:ByteArray).data.toList=[0] from rfl,fG] at h;exact h
theorem iI (n:Nat) (s:By) (w:World) {L:PgL} {P:Pgr} (h:PgIs w L P) (hf:P.d.Fine) (hw:P.d.file aA=none→P.d.files.length<8) (hr:(P.d.total:Int)+n+1≤P.d.room) (hn:n<4096) (hs:s.length=232):
  Calls Tryz.prog 160 #[ai L.gp,.int .i64 n,.string (aj s)] w fun e w'=>e=.returned (.int .i64 0)∧PTo w L { P with d:=P.d.lay n s } w':=by
 have HH:=hid h;have HSZ:=hid (bp aA (by decide) w h.dk);have hmx:max (P.d.size aA) 0=(P.d.len aA:Int):=Dk.len_max;have c0:=(ag h.blk).c0;have hl:=(ag h.blk).lt;have HF0:=hid (tB hf hw);have HR:=hid hr;have HN:=hid hn;have HS:=hid hs;have HRP:=hid ro;obtain ⟨len,hlen⟩:∃ len,len=P.d.len aA:=⟨_,rfl⟩;rw [← hlen] at hmx;have HLEN:=hid hlen;unfold ai cZ at *;generalize P.d.size aA=sz at *;clear h hf hw hr hn hs hlen;go_enter Tryz.func160,Tryz.ntmps160;go_wp2_with fail;refine HSZ.out.mono ?_;rintro e w' ⟨rfl,rfl⟩;go_wp2_with fail;go_loopw [7] (fun av wr=>∃ k a:Nat,a=len+k∧k≤n - len∧av=.int .i64 a∧FillOk P.d (P.d.fill aA k) k∧PTo w L { P with d:=P.d.fill aA k } wr) (fun av _=>n - (intOf av).toNat)
 case atStart=>exact ⟨0,len,rfl,Nat.zero_le _,rfl,HF0.out,PTo.refl HH.out⟩
 case round=>
  obtain ⟨k,a,ha,hk,rfl,hfo,hto⟩:=hrel;have HK:=hid hfo;obtain ⟨L1,hg1,hp1,hF1,hc1⟩:=hto;have HP1:=hid hp1;have HG1:=hid hg1;have HT1:=hid (And.intro hF1 hc1);have c0:=(ag hp1.blk).c0;have hl:=(ag hp1.blk).lt;rw [hg1] at c0 hl;unfold ai at c0;clear hfo hg1 hp1 hF1 hc1;have HA:=hid (And.intro ha hk);clear ha hk;by_cases hlt:a<n
  ·have hlt2:(a:Int)<(n:Int):=by omega
   have hwr:IntKind.i64.wrap ((a:Int)+1)=(a:Int)+1:=IntWalk.i64_in _ (by have:=HN.out;omega);have HW:=hid (fun (w':World) (hd:DkIs w' L1.D (P.d.fill aA k))=>ed aA (by decide) (a:Int) zeroS w' hd);have hcan:(P.d.fill aA k).Can aA a:=⟨by rw [HK.out.len,← HLEN.out];exact Nat.le_of_eq HA.out.1,HK.out.few,fun _=>by rw [HK.out.total,HK.out.room];have:=HR.out;have:=HA.out;omega⟩;rw [HK.out.fine.wrE (by decide) jg hcan,HK.out.fine.wrS (by decide) jg hcan] at HW;unfold cZ at HW;rw [uw] at HW;have HU:=hid (tA HK.out HP1.out.dk.ok);have HE:=hid (show (P.d.fill aA k).wr aA a zeroS=P.d.fill aA (k+1) by rw [HA.out.1,HLEN.out];rfl);rw [HE.out] at HW;clear hcan;go_upto_region 4 with fail
   go_region_held3 (fun w'=>w'.cell? ⟨L.gp,0,none⟩=some (.pointer (some ⟨L1.D.gd,0,none⟩))) (first | exact f0 | exact d0 | exact c0)
    (first
     | (go_at_call 82;(with_reducible refine (HRP.out _).mono ?_);rintro e w5 ⟨rfl,hb5⟩;have HB5:=hid (show Below wr.heap.size wr w5 from ((Below.refl wr.heap.size wr).drew).trans hb5);clear hb5;have HP5:=hid (HP1.out.below HB5.out);have d0:=(ag HP5.out.blk).c0;rw [HG1.out] at d0;unfold ai at d0)
     | (go_at_call 210;(with_reducible refine (HW.out _ ?ba).mono ?_);(case ba=>exact HP5.out.dk);rintro e w6 ⟨rfl,D6,e1,e2,e3,e4⟩;have HP6:=hid (HP5.out.setDk e1 e2 e3 e4 (fun _ hk=>hk));have HX6:=hid (PTo.dk HP5.out ⟨D6,e1,e2,e3,e4⟩);have f0:=(ag HP6.out.blk).c0;simp only [HG1.out,e1] at f0;unfold ai at f0;clear e1 e2 e3 e4))
   clear c0 d0 f0 HP6;go_wp2_with fail;go_roundw
   case rel=>exact ⟨k+1,a+1,by have:=HA.out;omega,by have:=HA.out;omega,by go_num,HU.out,PTo.and HG1.out HT1.out.1 HT1.out.2 (HX6.out.pre HB5.out)⟩
   case measure=>simp [intOf];omega
  ·have HW:=hid (rq n s wr HP1.out HK.out.fine ⟨by rw [HK.out.len,← HLEN.out];have:=HA.out;omega,HK.out.few,fun e=>by rw [HK.out.total,HK.out.room];have:=HR.out;have:=HA.out;omega⟩ (by have:=HN.out;omega) HS.out);have HE:=hid (show (P.d.fill aA k).put n s=P.d.lay n s by
    unfold Dk.lay;rw [← HLEN.out,show n - len=k by have:=HA.out;omega])
   rw [HE.out,HG1.out] at HW;unfold ai at HW;have hge:(n:Int)≤(a:Int):=by omega
   go_wp2_with fail;refine HW.out.mono ?_;rintro e w2 ⟨rfl,hr⟩;have HX:=hid (PTo.and HG1.out HT1.out.1 HT1.out.2 hr);clear hr;go_wp2_with fail;go_ret;exact ⟨rfl,HX.out⟩
end Go.Proofs.YtdmhbgpejppbkaaGreat
namespace Go.Proofs.YtdmhbgpejppbkaaGreat
open Go.Lib (hid)
open Go.RowKit Go.Maps
section
variable {w w':World} {L:PgL} {P P':Pgr}
theorem PgIs.calt (h:PgIs w L P):∀ k,L.Fc k→k<w.heap.size:=(h.sep.1 (hO L.Fc L.vc P.size P.ca) (by simp [PgL.obs])).2
theorem PgIs.build (hok:P.Ok) (h1:w.heap[L.gp]?=some (bX L P)) (h2:DkIs w L.D P.d) (h3:Ca w L.Fc L.vc P.size P.ca) (h4:∀ k,L.Fc k→k<w.heap.size) (h5:xH w L.D.gd L.N P.notes) (h6:SvIs w L.vs L.gs P.saves) (h7:xG w L.D.gd L.G P.lg) (A:Apart L) (hgd:L.D.gd=P.gd):PgIs w L P:=by
 refine ⟨⟨?_,?_⟩,hok,hgd⟩
 ·simp only [PgL.obs,List.forall_mem_cons];exact ⟨h1,h2,⟨h3,h4⟩,h5,h6,h7,fun _ h=>absurd h List.not_mem_nil⟩
 ·simp only [PgL.obs,List.pairwise_cons,List.forall_mem_cons];exact ⟨⟨fun k e=>e ▸ A.pd,fun k e=>e ▸ A.pc,fun k e=>e ▸ A.pj,fun k e=>e ▸ A.ps,fun k e=>e ▸ A.pl,fun _ h=>absurd h List.not_mem_nil⟩,⟨A.dc,A.dj,A.ds,A.dl,fun _ h=>absurd h List.not_mem_nil⟩,⟨A.cj,A.cs,A.cl,fun _ h=>absurd h List.not_mem_nil⟩,⟨A.js,A.jl,fun _ h=>absurd h List.not_mem_nil⟩,⟨A.sl,fun _ h=>absurd h List.not_mem_nil⟩,fun _ h=>absurd h List.not_mem_nil,List.Pairwise.nil⟩
theorem PgIs.setDJ (h:PgIs w L P) {g:Nat × Nat} {d:Dk} {x:Jn} (hg:L.N=some g) (hj:BM w L.D g.1 g.2 d x w'):PTo w L { P with d:=d,notes:=some x } w':=by
 obtain ⟨D,e1,e2,e3,e4,e5⟩:=hj;have A:=h.apart;have jF:∀ k,qw L.N k↔k=g.1∨k=g.2:=fun k=>by rw [hg];rfl
 have hnew:∀ k,D.F k→L.D.F k∨w.heap.size≤k:=e4;have hS:∀ k,(L.D.F k∨k=g.1∨k=g.2)→L.D.F k∨qw L.N k:=fun k hk=>hk.imp id (jF k).2
 refine ⟨{ L with D:=D },rfl,PgIs.build ⟨h.ok.s1,h.ok.s2,h.ok.base,h.ok.hp,h.ok.wp,h.ok.nos⟩ ?_ e2 (h.ca.ch e5 fun k hk hs=>?_) (fun k hk=>Nat.lt_of_lt_of_le (h.calt k hk) e5.size) (.inr ⟨g,x,hg,rfl,by rw [e1];exact e3⟩) (h.sv.ch e5 fun k hk hs=>?_) (by rw [show ({ L with D:=D }:PgL).D.gd=L.D.gd from e1];exact (qi L.D.gd L.G P.lg).loc h.lgo e5 fun k hk hs=>(hS _ hs).elim (fun e=>A.dl k e hk) fun e=>A.jl k e hk) ⟨fun hk=>?_,A.pc,A.pj,A.ps,fun k hk hc=>?_,fun k hk hc=>?_,fun k hk hc=>?_,A.cj,A.cs,A.js,A.pl,fun k hk hc=>?_,A.cl,A.jl,A.sl⟩ (e1.trans h.gd),fun k hk=>?_,e5.mono fun k _ hk=>?_⟩
 ·have e:bX { L with D:=D } { P with d:=d,notes:=some x }=bX L P:=by unfold bX;simp only [e1]
  rw [e];exact e5.keep h.blk fun hk=>(hS _ hk).elim A.pd A.pj
 ·exact (hS _ hs).elim (fun e=>A.dc k e hk) (fun e=>A.cj k hk e)
 ·exact (hS _ hs).elim (fun e=>A.ds k e hk) (fun e=>A.js k e hk)
 ·exact (hnew _ hk).elim A.pd fun e=>absurd (ab h.blk) (Nat.not_lt.2 e)
 ·exact (hnew _ hk).elim (fun e=>A.dc k e hc) fun e=>by have:=h.calt k hc;omega
 ·exact (hnew _ hk).elim (fun e=>A.dj k e hc) fun e=>by have:=h.lt (.inr (.inr (.inr (.inl hc))));omega
 ·exact (hnew _ hk).elim (fun e=>A.ds k e hc) fun e=>by have:=h.lt (.inr (.inr (.inr (.inr (.inl hc)))));omega
 ·exact (hnew _ hk).elim (fun e=>A.dl k e hc) fun e=>by have:=h.lt (.inr (.inr (.inr (.inr (.inr hc)))));omega
 ·rcases hk with hk | hk | hk
  ·exact .inl (.inl hk)
  ·exact (hnew _ hk).imp (fun e=>.inr (.inl e)) id
  ·exact .inl (.inr (.inr hk))
 ·exact (hS _ hk).elim (fun e=>.inr (.inl e)) fun e=>.inr (.inr (.inr (.inl e)))
theorem PgIs.cell (h:PgIs w L P) (k:Nat) (v:Value) (hb:(w.setCell ⟨L.gp,k,none⟩ v).heap[L.gp]?=some (bX L P')) (h1:P'.d=P.d) (h2:P'.size=P.size) (h3:P'.ca=P.ca) (h4:P'.notes=P.notes) (h5:P'.saves=P.saves) (hok:P'.Ok) (hgd:P'.gd=P.gd:=by rfl) (hlg:P'.lg=P.lg:=by rfl):PTo w L P' (w.setCell ⟨L.gp,k,none⟩ v):=
 have hc:=(Ch.refl (fun j=>j=L.gp) w).setCell (p:=⟨L.gp,k,none⟩) rfl v
 ⟨L,rfl,h.setBlk hc hb h1 h2 h3 h4 h5 hok hgd hlg,fun _ hk=>.inl hk,hc.mono fun _ _ e=>.inl e⟩
theorem PTo.keep {g:Nat} {o:Obj} (h:PTo w L P w') (hg:w.heap[g]?=some o) (hn:¬ L.F g):w'.heap[g]?=some o:=by obtain ⟨L1,h1,h2,h3,h4⟩:=h;exact h4.keep hg hn
end
def Pgr.seal (P:Pgr):Pgr:=match P.notes with
 | some j=>{ P with d:=j.sealD P.d,notes:=some j.sealJ }
 | none=>P
def Pgr.sealed (P:Pgr):Pgr:={ P.note.seal with marred:=true }
def Pgr.spillJ (P:Pgr) (n:Nat) (s:By):Pgr:={ P.sealed with d:=P.sealed.d.lay n s }
structure CanSpillJ (P:Pgr) (n:Nat) (s:By):Prop where
 j0:P.notes=none→P.d.file aQ=none
 ch:P.head.change+1<18446744073709551616
 cs:∀ j,P.note.notes=some j→CanSeal P.d j
 lf:P.sealed.d.Fine
 lw:P.sealed.d.file aA=none→P.sealed.d.files.length<8
 lr:(P.sealed.d.total:Int)+n+1≤P.sealed.d.room
 n:n<4096
 s:s.length=232
theorem dD (P:Pgr):∃ j,P.note.notes=some j:=by
 unfold Pgr.note;cases h:P.notes with
 | none=>exact ⟨_,rfl⟩
 | some j=>exact ⟨j,h⟩
theorem wd (P:Pgr):P.note.d=P.d:=by unfold Pgr.note;cases P.notes <;> rfl
def kS (n:Nat) (s:By):Obj:=.cells #[.int .i64 n,.string (aj s)] 134 (0,0)
theorem vQ {w:World} {g n:Nat} {s:By} (h:w.heap[g]?=some (kS n s)):w.cell? ⟨g,0,none⟩=some (.int .i64 n)∧w.cell? ⟨g,1,none⟩=some (.string (aj s))∧g<w.heap.size:=⟨aa h 0,aa h 1,ab h⟩
theorem pQ (n:Nat) (s:By) (w:World) {L:PgL} {P:Pgr} (h:PgIs w L P) (hlg:P.lg=none) (hc:CanSpillJ P n s):
  Calls Tryz.prog 185 #[ai L.gp,.agg #[.int .i64 n,.string (aj s)]] w fun e w'=>e=.returned (.int .i64 0)∧PTo w L (P.spillJ n s) w':=by
 have hA:Below w.heap.size w (w.alloc (kS n s)):=(Below.refl _ w).alloc (Nat.le_refl _) _;have HA:=hid hA;have HX0:=hid (af (w0:=w) (g:=w.heap.size) (o:=kS n s) rfl);have HH:=hid (h.below hA);have hbl:∀ k,L.F k→k<w.heap.size:=fun k hk=>h.lt hk
 have HBL:=hid hbl;have hC:=ag HH.out.blk;have c9:=hC.c9;rw [h.nolg hlg] at c9;unfold bn at c9;have hl:=hC.lt;have HN:=hid (ev _ HH.out hc.j0 hc.ch);have HC:=hid hc;clear hA hbl hC h hc hlg;unfold ai at *;go_enter Tryz.func185,Tryz.ntmps185;go_upto_region 1 with fail
 have hw0:∃ w0,w.alloc (kS n s)=w0:=⟨_,rfl⟩;obtain ⟨w0,hw0⟩:=hw0;rw [hw0] at HA HX0 HH HN c9 hl;unfold kS at hw0;rw [hw0];have HW0:=hid hw0;clear hw0;go_wp2_with fail;refine HN.out.mono ?_;rintro e w1 ⟨rfl,hto⟩;have HX1:=hid (hto.keep HX0.out fun hk=>Nat.lt_irrefl _ (HBL.out _ hk));obtain ⟨L1,g1,p1,f1,c1⟩:=hto;obtain ⟨j,hj⟩:=dD P;rcases p1.jn with ⟨-,hno⟩ | ⟨g,x,hN,hnn,hx⟩
 ·rw [hj] at hno;cases hno
 obtain rfl:x=j:=by rw [hj] at hnn;injection hnn with e;exact e.symm
 have hA1:=p1.apart;have jF:∀ k,(k=g.1∨k=g.2)→qw L1.N k:=fun k e=>by rw [hN];exact e
 have hC1:=ag p1.blk;have k24:=hC1.c24;have kl:=hC1.lt;rw [hN] at k24;unfold dq ai at k24;have HSL:=hid (jK x w1 p1.dk hx (fun e=>hA1.dj _ e (jF _ (.inl rfl))) (fun e=>hA1.dj _ e (jF _ (.inr rfl))) (by rw [wd];exact HC.out.cs x hj));unfold ai at HSL;have HP1:=hid p1;have HG1:=hid (And.intro g1 (And.intro f1 c1));have HN1:=hid hN;have HJ1:=hid hj;have HE1:=hid (show P.note.seal={ P.note with d:=x.sealD P.note.d,notes:=some x.sealJ } by unfold Pgr.seal;rw [hj]);rw [g1] at k24 kl;clear g1 f1 c1 p1 hj hN hnn hx hA1 jF hC1;go_wp2_with fail;refine HSL.out.mono ?_;rintro e w2 ⟨rfl,hto⟩;have hto:=HP1.out.setDJ HN1.out hto;rw [← HE1.out] at hto;have hbx1:¬ L1.F w.heap.size:=fun e=>(HG1.out.2.1 _ e).elim (fun e=>Nat.lt_irrefl _ (HBL.out _ e)) (fun e=>by have:=HA.out.size;have:=ab HX0.out;omega)
 have HX2:=hid (hto.keep HX1.out hbx1);obtain ⟨L2,g2,p2,f2,c2⟩:=hto;have hq:PgIs (w2.setCell ⟨L.gp,25,none⟩ (.bool true)) L2 P.sealed∧Ch (fun k=>k=L.gp) w2 (w2.setCell ⟨L.gp,25,none⟩ (.bool true)):=by have hc:=(Ch.refl (fun j=>j=L.gp) w2).setCell (p:=⟨L.gp,25,none⟩) rfl (.bool true);have hg:L2.gp=L.gp:=g2.trans HG1.out.1;rw [← hg];rw [← hg] at hc;exact ⟨p2.setBlk hc (ae p2.blk 25 (.bool true)) rfl rfl rfl rfl rfl ⟨p2.ok.s1,p2.ok.s2,p2.ok.base,p2.ok.hp,p2.ok.wp,p2.ok.nos⟩,hc⟩
 have HQ:=hid hq;have HG2:=hid (And.intro g2 (And.intro f2 c2));have hC2:=ag p2.blk;have k25:=hC2.c25;have z25:=hC2.fz 25;have kl2:=hC2.lt;rw [g2,HG1.out.1] at k25 z25 kl2;have hbx2:¬ L2.F w.heap.size:=fun e=>(f2 _ e).elim hbx1 (fun e=>by have:=ab HX1.out;omega)
 have HX3:=hid (hq.2.keep HX2.out (fun e=>hbx1 (.inl (e.trans HG1.out.1.symm))));clear hto g2 f2 c2 p2 hC2 hq hbx1 hbx2 c9 hl k24 kl;go_upto_region 10 with fail
 generalize w2.setCell ⟨L.gp,25,none⟩ (.bool true)=w3 at *;clear k25 z25 kl2;obtain ⟨x0,x1,xl⟩:=vQ HX3.out;have HLY:=hid (iI n s w3 HQ.out.1 HC.out.lf HC.out.lw HC.out.lr HC.out.n HC.out.s);rw [HG2.out.1,HG1.out.1] at HLY;unfold ai at HLY;go_wp2_with fail;refine HLY.out.mono ?_;rintro e w4 ⟨rfl,hto⟩;have HT:=hid hto;clear hto;go_wp2_with fail;go_ret;refine ⟨rfl,PTo.pre ?_ HA.out⟩;refine PTo.and HG1.out.1 HG1.out.2.1 HG1.out.2.2 (PTo.and HG2.out.1 HG2.out.2.1 HG2.out.2.2 ?_);exact PTo.and rfl (fun _ hk=>.inl hk) (HQ.out.2.mono fun k _ e=>.inl (e.trans (HG2.out.1.trans HG1.out.1).symm)) HT.out
end Go.Proofs.YtdmhbgpejppbkaaGreat
namespace Go.Proofs.YtdmhbgpejppbkaaGreat
open Go.Lib (hid)
open Go.RowKit Go.Maps
theorem lq (w:World) {gd:Nat} {M:LgM} {l:List Fr} (h:LgIs w gd M l):
  Calls Tryz.prog 109 #[ai M.gl] w fun e w'=>e=.returned (.int .i64 l.length)∧w=w':=by
 obtain ⟨c0,c1,c2,cl,cf⟩:=br h.blk;obtain ⟨A,c,hv,hc⟩:=aD h.row;rw [hv] at c1;clear h cf hv;unfold ai at *;go_enter Tryz.func109,Tryz.ntmps109;go_wp2_with fail;go_ret;exact ⟨rfl,rfl⟩
theorem iQ (w:World) {gd:Nat} {M:LgM} {l:List Fr} (h:LgIs w gd M l):
  Calls Tryz.prog 263 #[ai M.gl] w fun e w'=>e=.returned (.int .u64 (mu l))∧Below w.heap.size w w':=by
 obtain ⟨c0,c1,c2,cl,cf⟩:=br h.blk;rcases List.eq_nil_or_concat l with rfl | ⟨l',f,rfl⟩
 ·obtain ⟨A,c,hv,hc⟩:=aD h.row;rw [hv] at c1;have HS:=hid (fun (w:World)=>fY topB w);rw [vD];have HT:=hid (fun (w:World)=>qo w);generalize aj topB=tp at *;generalize cb topB=su at *;clear h cf hv;unfold ai at *;go_enter Tryz.func263,Tryz.ntmps263;go_wp2_with fail;refine (HT.out w).mono ?_;rintro e w1 ⟨rfl,hb⟩;have HB:=hid hb;clear hb;go_wp2_with fail;refine (HS.out w1).mono ?_;rintro e w2 ⟨rfl,hb⟩;have HB2:=hid (HB.out.trans (hb.mono HB.out.size));clear hb;go_wp2_with fail;go_ret;exact ⟨rfl,HB2.out⟩
 ·rw [List.concat_eq_append] at *;rw [tT];obtain ⟨b,c,hv,hcl,hb,r0,r1,r2,-⟩:=qe h.row (i:=l'.length) (by simp);rw [hv] at c1;have e1:(l' ++ [f]).length=l'.length+1:=by simp
  rw [List.getElem_append_right (Nat.le_refl _)] at r1;simp only [Nat.sub_self,List.getElem_cons_zero] at r1;rw [e1] at c1 hcl;have hn:=h.ok.n;rw [e1] at hn;have hwr:IntKind.i64.wrap (((l'.length+1:Nat):Int) - 1)=(l'.length:Int):=by rw [IntWalk.i64_in _ (by omega)];omega
  have hne:(((l'.length+1:Nat):Int) == 0)=false:=by simp;omega
  clear h cf hv r0 r2 e1;unfold ai at *;go_enter Tryz.func263,Tryz.ntmps263;go_upto_region 3 with fail
  go_region;go_wp2_with fail;go_ret;exact ⟨rfl,(Below.refl _ w).drew⟩
def zo (w:World) (gd:Nat) (M:LgM) (l:List Fr) (w':World):Prop:=∃ M',M'.gl=M.gl∧LgIs w' gd M' l∧(∀ k,iA M' k→iA M k∨w.heap.size≤k)∧Ch (iA M) w w'
theorem FrOk.take {l:List Fr} (h:FrOk l) (n:Nat):FrOk (l.take n):=⟨by have:=h.n;rw [List.length_take];omega,fun x hx=>h.f x (List.mem_of_mem_take hx)⟩
theorem wE {l:List Fr} {j:Nat} (h:j<l.length):bA (l.take (j+1))=aX (bA (l.take j)) (l[j].page:Int) (j:Int):=by rw [List.take_succ_eq_append_getElem h,ir,List.length_take,Nat.min_eq_left (by omega)]
theorem lu (n:Nat) (w:World) {gd gl:Nat} {vf u:Value} {l:List Fr} (hok:FrOk l) (hbk:w.heap[gl]?=some (.cells #[ai gd,vf,u] 197 (0,0))) (hrow:Own tz 3 214 0 w vf l) (hn2:vf.ownBlock≠some gl) (hn:n≤l.length):
  Calls Tryz.prog 177 #[ai gl,.int .i64 n] w fun e w'=>e=.returned (.tuple #[])∧∃ M',M'.gl=gl∧LgIs w' gd M' (l.take n)∧(∀ k,iA M' k→k=gl∨vf.ownBlock=some k∨w.heap.size≤k)∧Ch (fun k=>k=gl) w w':=by
 have c0:=aa hbk 0;have c1:=aa hbk 1;have c2:=aa hbk 2;have cl:=ab hbk;have z1:=ah hbk 1;have z2:=ah hbk 2;simp only [List.getElem?_toArray,List.getElem?_cons_zero,List.getElem?_cons_succ] at c0 c1 c2;have hmm:=@run_makeMap Tryz.prog;obtain ⟨A,c,rfl,hc⟩:=aD hrow;obtain ⟨ls,hls⟩:∃ ls,ls=l.take n:=⟨_,rfl⟩;have hll:ls.length=n:=by rw [hls,List.length_take];omega
 have h20:n≤20000:=by have:=hok.n;omega
 have hnc:(n:Int)≤(c:Int):=by omega
 have hn0:(0:Int)≤(n:Int):=by omega
 have hgl:=ab hbk;obtain ⟨w1,hw1⟩:∃ w1,w1=(w.setCell ⟨gl,1,none⟩ (.slice A n c)).setCell ⟨gl,2,none⟩ (.map (some w.heap.size)):=⟨_,rfl⟩;obtain ⟨w2,hw2⟩:∃ w2,w2=w1.alloc (.map #[] 0):=⟨_,rfl⟩;have hs1:w1.heap.size=w.heap.size:=by rw [hw1];simp
 have hc1:Ch (fun k=>k=gl) w w1:=by rw [hw1];exact ((Ch.refl (fun k=>k=gl) w).setCell (p:=⟨gl,1,none⟩) rfl _).setCell (p:=⟨gl,2,none⟩) rfl _
 have hb1:w1.heap[gl]?=some (uz gd ⟨gl,w.heap.size,.slice A n c⟩):=by rw [hw1];exact ae (ae hbk 1 (.slice A n c)) 2 (.map (some w.heap.size))
 have hb2:Below w1.heap.size w1 w2:=by rw [hw2];exact (Below.refl _ w1).alloc (Nat.le_refl _) _
 have hoA:∀ k,(Value.slice A n c).ownBlock=some k→k≠gl∧k<w.heap.size:=fun k hk=>by
  have e:(Value.slice A l.length c).ownBlock=some k:=(fD _ _ _ _ _).trans hk;exact ⟨fun e2=>hn2 (e2 ▸ e),(hrow.lt k e).2⟩
 have hrow2:Own tz 3 214 0 w2 (.slice A n c) ls:=by rw [hls];exact ((hrow.take' fK hn).ch hc1 fun k hk=>(hoA k hk).1).below hb2
 have hm2:qV w2 w.heap.size (bA (ls.take 0)):=by rw [hw2,← hs1];exact MpIs.made w1
 have HST:=hid (show Ch (fun k=>k=gl) w w2∧w2.heap[gl]?=some (uz gd ⟨gl,w.heap.size,.slice A n c⟩)∧Own tz 3 214 0 w2 (.slice A n c) ls∧qV w2 w.heap.size (bA (ls.take 0)) from
  ⟨hc1.trans (Ch.of_below hb2),(Ch.of_below (S:=fun _=>False) hb2).keep hb1 id,hrow2,hm2⟩)
 have HOA:=hid hoA;have HW:=hid (And.intro hw1 hw2);have HFO:=hid (show FrOk ls from hls ▸ hok.take n);rw [← hls];have h2s:w2.heap.size=w.heap.size+1:=by rw [hw2,← hs1];simp
 clear hok hbk hrow hn2 hls hw1 hw2 hc1 hb1 hb2 hoA hrow2 hm2 hs1;unfold ai at *;go_enter Tryz.func177,Tryz.ntmps177;go_upto_region 2 with fail
 rw [← HW.out.1,← HW.out.2];obtain ⟨hcw,hb2,hrow2,hm2⟩:=HST.out;obtain ⟨d0,d1,d2,dl,-⟩:=br (M:=⟨gl,w.heap.size,.slice A n c⟩) hb2;have HG:=hid hgl;clear hcw hb2 hrow2 hm2 c0 c1 c2 cl z1 z2 hmm;go_wp2_with fail;go_loopw [24] (fun iv wr=>∃ j:Nat,j≤n∧iv=.int .i64 j∧qV wr w.heap.size (bA (ls.take j))∧Ch (fun k=>k=w.heap.size) w2 wr∧w2.heap.size≤wr.heap.size) (fun iv _=>n - (intOf iv).toNat)
 case atStart=>exact ⟨0,Nat.zero_le _,rfl,HST.out.2.2.2,Ch.refl _ _,Nat.le_refl _⟩
 case round=>
  obtain ⟨j,hj,rfl,hm,hc,hs⟩:=hrel;have HM:=hid (And.intro hm (And.intro hc hs));have hb:=hc.keep HST.out.2.1 (by omega);have hrow:=HST.out.2.2.1.ch hc fun k hk=>by have:=(HOA.out k hk).2;omega
  by_cases hlt:j<n
  ·obtain ⟨b,c',hv,-,hbl,r0,r1,r2,-⟩:=qe hrow (i:=j) (by omega);injection hv with e1 e2 e3
   subst e1;have hup:=wE (l:=ls) (j:=j) (by omega);have hpg:=HFO.out.f _ (List.getElem_mem (show j<ls.length by omega));generalize ls[j]'(by omega)=f at *;have HUP:=hid hup;have hj1:(j:Int)<(n:Int):=by omega
   have hwr:IntKind.i64.wrap ((j:Int)+1)=((j+1:Nat):Int):=by rw [IntWalk.i64_in _ (by omega)];omega
   have HJ:=hid (And.intro hj hlt);have hfl:f.page<4096:=hpg.1;obtain ⟨w3,hw3⟩:∃ w3,w3=wr.alloc (.cells #[.int .i64 f.page,.int .u64 f.sum,.bool f.com] 214 (0,0)):=⟨_,rfl⟩;have hA:Below wr.heap.size wr w3:=by rw [hw3];exact (Below.refl _ wr).alloc (Nat.le_refl _) _
   have hc3:Ch (fun _=>False) wr w3:=Ch.of_below hA;have hx3:w3.heap[wr.heap.size]?=some (.cells #[.int .i64 f.page,.int .u64 f.sum,.bool f.com] 214 (0,0)):=by rw [hw3];exact af rfl
   have hb3:=hc3.keep hb id;have hm3:=hm.ch hc3 id;have hK:=dE (ls.take j);rw [List.length_take] at hK;obtain ⟨w4,hrun,hm4,hgr⟩:=(hm3.ch (S:=fun _=>False) (Ch.drew (Ch.refl _ _)) id).set zy (a:=(f.page:Int)) (bD (by omega)) (j:Int) (by unfold maxLen;omega);have HM4:=hid (show qV w4 w.heap.size (bA (ls.take (j+1)))∧Ch (fun k=>k=w.heap.size) w2 w4 from ⟨by rw [HUP.out];exact hm4,(hc.trans (hc3.mono fun _ _ e=>e.elim)).trans ((Ch.drew (Ch.refl _ _)).trans (Ch.of_grown hgr fun k hk=>by injection hk with hk;exact hk.symm))⟩);obtain ⟨y0,y1,y2,yl,-⟩:=br (M:=⟨gl,w.heap.size,.slice (some ⟨b,0,none⟩) n c⟩) hb3;have x0:=aa hx3 0;have xl:=ab hx3;simp only [List.getElem?_toArray,List.getElem?_cons_zero] at x0;have HW3:=hid hw3;unfold ny at hrun;clear hm hc hs hb hrow hup hpg hw3 hA hc3 hx3 hb3 hm3 hK hm4 hgr e2 e3 d0 d1 d2 dl;go_upto_region 5 with fail
   rw [← HW3.out];go_region;go_wp2_with fail;go_roundw
   case rel=>exact ⟨j+1,by have:=HJ.out;omega,by go_num,HM4.out.1,HM4.out.2,Nat.le_trans (by omega) HM4.out.2.size⟩
   case measure=>simp [intOf];omega
  ·obtain rfl:j=n:=by omega
   have HB:=hid (And.intro hb hrow);clear hm hc hs hb hrow;go_wp2_with fail;refine bodyPost_end (results_none rfl _ _ _) rfl ⟨rfl,⟨gl,w.heap.size,.slice A j c⟩,rfl,⟨HFO.out,HB.out.1,HB.out.2,?_,(by have h9:=HG.out;show gl≠w.heap.size;omega),fun e=>(HOA.out _ e).1 rfl,fun e=>absurd (HOA.out w.heap.size e).2 (Nat.lt_irrefl _)⟩,fun k hk=>?_,?_⟩
   ·have:=HM.out.1
    rwa [List.take_of_length_le (by omega)] at this
   ·rcases hk with rfl | rfl | hk
    ·exact .inl rfl
    ·exact .inr (.inr (Nat.le_refl _))
    ·exact .inr (.inl ((fD _ _ _ _ _).trans hk))
   ·exact HST.out.1.then HM.out.2.1 fun i hi=>.inr (by omega)
theorem nk (n:Nat) (w:World) {gd:Nat} {M:LgM} {l:List Fr} (h:LgIs w gd M l) (hn:n≤l.length):
  Calls Tryz.prog 177 #[ai M.gl,.int .i64 n] w fun e w'=>e=.returned (.tuple #[])∧zo w gd M (l.take n) w':=
 (lu n w h.ok h.blk h.row h.n2 hn).mono fun _ _ ⟨he,M',h1,h2,h3,h4⟩=>⟨he,M',h1,h2,fun k hk=>(h3 k hk).elim (fun e=>.inl (.inl e)) fun e=>e.imp (fun e=>.inr (.inr e)) id,h4.mono fun _ _ e=>.inl e⟩
end Go.Proofs.YtdmhbgpejppbkaaGreat
namespace Go.Proofs.YtdmhbgpejppbkaaGreat
open Go.Lib (hid)
open Go.RowKit Go.Maps
def LTo (w:World) (D:DkM) (M:LgM) (d:Dk) (l:List Fr) (w':World):Prop:=∃ D' M',D'.gd=D.gd∧M'.gl=M.gl∧DkIs w' D' d∧LgIs w' D.gd M' l∧(∀ k,D'.F k→D.F k∨w.heap.size≤k)∧(∀ k,iA M' k→iA M k∨w.heap.size≤k)∧(∀ k,D'.F k→¬ iA M' k)∧Ch (fun k=>D.F k∨iA M k) w w'
section
variable {w w1 w':World} {D:DkM} {M:LgM} {d d':Dk} {l l':List Fr}
theorem LTo.dk (h:LgIs w D.gd M l) (hx:∀ k,D.F k→¬ iA M k) (hd:DkTo w D d w'):LTo w D M d l w':=by
 obtain ⟨D',e1,e2,e3,e4⟩:=hd;refine ⟨D',M,e1,rfl,e2,h.ch e4 fun k hk hs=>hx k hs hk,e3,fun _ hk=>.inl hk,fun k hk hl=>?_,e4.mono fun k _ e=>.inl e⟩;rcases e3 k hk with e | e
 ·exact hx k e hl
 ·have:=h.lt hl;omega
theorem LTo.lg (h:LTo w D M d l w1) (k:∀ D1 M1,M1.gl=M.gl→D1.gd=D.gd→DkIs w1 D1 d→LgIs w1 D.gd M1 l→zo w1 D.gd M1 l' w'):LTo w D M d l' w':=by
 obtain ⟨D1,M1,a1,a2,a3,a4,a5,a6,a7,a8⟩:=h;obtain ⟨M2,b1,b2,b3,b4⟩:=k D1 M1 a2 a1 a3 a4;refine ⟨D1,M2,a1,b1.trans a2,a3.ch b4 (fun k hk hl=>a7 k hk hl),b2,a5,fun k hk=>?_,fun k hk hl=>?_,a8.then b4 fun k hk=>(a6 k hk).imp .inr id⟩
 ·rcases b3 k hk with e | e
  ·exact a6 k e
  ·exact .inr (Nat.le_trans a8.size e)
 ·rcases b3 k hl with e | e
  ·exact a7 k hk e
  ·have:=a3.lt hk;omega
theorem LTo.pre (h:LTo w1 D M d l w') (hb:Below w.heap.size w w1):LTo w D M d l w':=by obtain ⟨D1,M1,a1,a2,a3,a4,a5,a6,a7,a8⟩:=h;exact ⟨D1,M1,a1,a2,a3,a4,fun k hk=>(a5 k hk).imp id fun e=>Nat.le_trans hb.size e,fun k hk=>(a6 k hk).imp id fun e=>Nat.le_trans hb.size e,a7,(Ch.of_below hb).trans a8⟩
theorem LTo.post (h:LTo w D M d l w1) (hb:Below w1.heap.size w1 w'):LTo w D M d l w':=by obtain ⟨D1,M1,a1,a2,a3,a4,a5,a6,a7,a8⟩:=h;exact ⟨D1,M1,a1,a2,a3.ch (S:=fun _=>False) (Ch.of_below hb) fun _ _ h=>h,a4.below hb,a5,a6,a7,a8.trans (Ch.of_below hb)⟩
theorem LTo.refl (h:DkIs w D d) (hl:LgIs w D.gd M l) (hx:∀ k,D.F k→¬ iA M k):LTo w D M d l w:=⟨D,M,rfl,rfl,h,hl,fun _ hk=>.inl hk,fun _ hk=>.inl hk,hx,Ch.refl _ _⟩
end
theorem sg (w:World) {D:DkM} {d:Dk} (h:DkIs w D d) (hf:d.file bf=none):
  Calls Tryz.prog 117 #[ai D.gd] w fun e w'=>∃ M:LgM,e=.returned (.tuple #[ai M.gl,.int .i64 0])∧LgIs w' D.gd M []∧(∀ k,iA M k→w.heap.size≤k)∧Below w.heap.size w w':=by
 obtain ⟨w1,hw1⟩:∃ w1,w1=w.alloc (.cells #[ai D.gd,.slice none 0 0,.map none] 197 (0,0)):=⟨_,rfl⟩;have hA:Below w.heap.size w w1:=by rw [hw1];exact (Below.refl _ w).alloc (Nat.le_refl _) _
 have hx:w1.heap[w.heap.size]?=some (.cells #[ai D.gd,.slice none 0 0,.map none] 197 (0,0)):=by rw [hw1];exact af rfl
 have HK:=hid (lu 0 w1 (gl:=w.heap.size) (l:=[]) ⟨Nat.zero_le _,fun x hx=>by cases hx⟩ hx Own.nil (fun e=>by cases e) (Nat.le_refl _));have HS:=hid (fun (w':World) (hd:DkIs w' D d)=>bp bf (by decide) w' hd);rw [Dk.size_none hf] at HS;have HH:=hid h;have HA:=hid (And.intro hA hw1);have hs1:w1.heap.size=w.heap.size+1:=by rw [hw1];simp
 have HS1:=hid hs1;unfold ai cZ at *;clear h hf hA hx hw1 hs1;go_enter Tryz.func117,Tryz.ntmps117;go_upto_region 4 with fail
 rw [← HA.out.2];go_wp2_with fail;refine HK.out.mono ?_;rintro e w2 ⟨rfl,M,hg,hM,hF,hc⟩;have hb2:Below w.heap.size w w2:=HA.out.1.trans (hc.below (B:=w.heap.size) (by have:=HS1.out;omega) fun k e=>Nat.le_of_eq e.symm);have HM:=hid (And.intro hg (And.intro hM (And.intro hF hb2)));have HSZ:=hid (HS.out w2 (HH.out.ch (Ch.of_below (S:=fun _=>False) hb2) fun _ _ h=>h));clear hg hM hF hc hb2;go_wp2_with fail;refine HSZ.out.mono ?_;rintro e w3 ⟨rfl,rfl⟩;go_wp2_with fail;go_ret2;obtain ⟨hg,hM,hF,hb2⟩:=HM.out;refine ⟨M,by rw [hg];rfl,hM,fun k hk=>?_,hb2⟩;rcases hF k hk with e | e | e
 ·omega
 ·cases e
 ·have:=HS1.out;omega
section
variable {D:DkM} {M:LgM} {d:Dk} {l:List Fr}
theorem ux (w:World) (h:DkIs w D d) (hl:LgIs w D.gd M l) (hx:∀ k,D.F k→¬ iA M k) (hf:d.Fine) {f:Fi} (hfl:d.file bf=some f):
  Calls Tryz.prog 171 #[ai M.gl] w fun e w'=>e=.returned (.int .i64 0)∧LTo w D M (d.setF bf Fi.settle) l w':=by
 obtain ⟨c0,c1,c2,cl,-⟩:=br hl.blk;have HS:=hid (bp bf (by decide) w h);have HY:=hid (dJ bf (by decide) w h);rw [Dk.size_some hfl] at HS;obtain ⟨y1,y2⟩:=hf.sy (n:=bf) (by decide) hfl;rw [y1,y2] at HY;have hn0:(0:Int)≤(f.now.length:Int):=by omega
 have HH:=hid (And.intro hl hx);generalize (f.now.length:Int)=z at *;unfold ai cZ at *;clear h hl hx hf hfl y1 y2;go_enter Tryz.func171,Tryz.ntmps171;go_wp2_with fail;refine HS.out.mono ?_;rintro e w3 ⟨rfl,rfl⟩;go_wp2_with fail;refine HY.out.mono ?_;rintro e w3 ⟨rfl,hr⟩;have HR:=hid (show LTo _ D M (d.setF bf Fi.settle) l w3 from LTo.dk HH.out.1 HH.out.2 hr);clear hr;go_wp2_with fail;go_ret;exact ⟨rfl,HR.out⟩
theorem qr (w:World) (h:DkIs w D d) (hl:LgIs w D.gd M l) (hx:∀ k,D.F k→¬ iA M k) (hf:d.Fine):
  Calls Tryz.prog 162 #[ai M.gl] w fun e w'=>e=.returned (.int .i64 0)∧LTo w D M (d.del bf) [] w':=by
 obtain ⟨c0,c1,c2,cl,-⟩:=br hl.blk;have HS:=hid (bp bf (by decide) w h);have HD:=hid (qJ bf (by decide) w h)
 have HKP:=hid (fun (w1:World) (h1:LTo w D M (d.del bf) l w1)=>show Calls Tryz.prog 177 #[ai M.gl,.int .i64 0] w1 fun e w'=>e=.returned (.tuple #[])∧LTo w D M (d.del bf) [] w' from by
  obtain ⟨D1,M1,a1,a2,a3,a4,a5,a6,a7,a8⟩:=h1;have hk:=nk 0 w1 a4 (Nat.zero_le _);rw [a2] at hk;refine hk.mono fun e w' ⟨he,hto⟩=>⟨he,?_⟩
  obtain ⟨M2,b1,b2,b3,b4⟩:=hto;refine ⟨D1,M2,a1,b1.trans a2,a3.ch b4 (fun k hk hl=>a7 k hk hl),b2,a5,fun k hk=>?_,fun k hk hl=>?_,a8.then b4 fun k hk=>(a6 k hk).imp .inr id⟩
  ·rcases b3 k hk with e | e
   ·exact a6 k e
   ·exact .inr (Nat.le_trans a8.size e)
  ·rcases b3 k hl with e | e
   ·exact a7 k hk e
   ·have:=a3.lt hk;omega)
 have HH:=hid (And.intro h (And.intro hl hx));cases hfl:d.file bf with
 | none=>
   have HE:=hid (show d.del bf=d by
    unfold Dk.del;rw [jQ fun hm=>by have:=cC (K:=d.files) (a:=bf);unfold Dk.file at hfl;rw [hfl] at this;simp at this hm;obtain ⟨x,hx⟩:=hm;exact this _ hx])
   have HKN:=hid (HKP.out w (by rw [HE.out];exact LTo.refl h hl hx));rw [Dk.size_none hfl] at HS;unfold ai cZ at *;clear h hl hx hf hfl;go_enter Tryz.func162,Tryz.ntmps162;go_wp2_with fail;refine HS.out.mono ?_;rintro e w3 ⟨rfl,rfl⟩;go_wp2_with fail;refine HKN.out.mono ?_;rintro e w3 ⟨rfl,hr⟩;have HR:=hid hr;clear hr;go_wp2_with fail;go_ret;exact ⟨rfl,HR.out⟩
 | some f=>
   obtain ⟨e1,e2⟩:=hf.dr (n:=bf) (by decide) hfl;rw [Dk.size_some hfl] at HS;rw [e1,e2] at HD;have hn0:(0:Int)≤(f.now.length:Int):=by omega
   generalize (f.now.length:Int)=z at *;unfold ai cZ at *;clear h hl hx hf hfl e1 e2;go_enter Tryz.func162,Tryz.ntmps162;go_wp2_with fail;refine HS.out.mono ?_;rintro e w3 ⟨rfl,rfl⟩;go_wp2_with fail;refine HD.out.mono ?_;rintro e w3 ⟨rfl,hr⟩;have HKN:=hid (HKP.out w3 (LTo.dk HH.out.2.1 HH.out.2.2 hr));clear hr;go_wp2_with fail;refine HKN.out.mono ?_;rintro e w4 ⟨rfl,hr⟩;have HR:=hid hr;clear hr;go_wp2_with fail;go_ret;exact ⟨rfl,HR.out⟩
end
end Go.Proofs.YtdmhbgpejppbkaaGreat
namespace Go.Proofs.YtdmhbgpejppbkaaGreat
open Go.Lib (hid)
open Go.RowKit Go.Maps
theorem LTo.keep {w w1:World} {D:DkM} {M:LgM} {d:Dk} {l:List Fr} (n:Nat) (h1:LTo w D M d l w1) (hn:n≤l.length):
  Calls Tryz.prog 177 #[ai M.gl,.int .i64 n] w1 fun e w'=>e=.returned (.tuple #[])∧LTo w D M d (l.take n) w':=by
 obtain ⟨D1,M1,a1,a2,a3,a4,a5,a6,a7,a8⟩:=h1;have hk:=nk n w1 a4 hn;rw [a2] at hk;refine hk.mono fun e w' ⟨he,hto⟩=>⟨he,?_⟩
 obtain ⟨M2,b1,b2,b3,b4⟩:=hto;refine ⟨D1,M2,a1,b1.trans a2,a3.ch b4 (fun k hk hl=>a7 k hk hl),b2,a5,fun k hk=>?_,fun k hk hl=>?_,a8.then b4 fun k hk=>(a6 k hk).imp .inr id⟩
 ·rcases b3 k hk with e | e
  ·exact a6 k e
  ·exact .inr (Nat.le_trans a8.size e)
 ·rcases b3 k hl with e | e
  ·exact a7 k hk e
  ·have:=a3.lt hk;omega
def cp (d:Dk) (l:List Fr) (n:Nat):Dk:=if n=l.length then d else d.setF bf (·.cut (n+1))
section
variable {D:DkM} {M:LgM} {d:Dk} {l:List Fr}
theorem uB (n:Nat) (w:World) (h:DkIs w D d) (hl:LgIs w D.gd M l) (hx:∀ k,D.F k→¬ iA M k) (hf:d.Fine) (hn:n≤l.length) (hfl:n<l.length→∃ f,d.file bf=some f∧n+1≤f.now.length):
  Calls Tryz.prog 214 #[ai M.gl,.int .i64 n] w fun e w'=>e=.returned (.int .i64 0)∧LTo w D M (cp d l n) (l.take n) w':=by
 obtain ⟨c0,c1,c2,cl,-⟩:=br hl.blk;obtain ⟨A,c,hv,hc⟩:=aD hl.row;have HH:=hid (And.intro h (And.intro hl hx));have h20:=hl.ok.n;rw [hv] at c1;by_cases he:n=l.length
 ·have HE:=hid (show cp d l n=d∧l.take n=l from ⟨if_pos he,by rw [he,List.take_length]⟩);have e1:decide ((n:Int)<0)=false:=by simp
  have e2:decide ((n:Int) > (l.length:Int))=false:=by simp;omega
  rw [← he] at c1 hc;clear h hl hx hf hfl hv hn he e2;unfold ai at *;go_enter Tryz.func214,Tryz.ntmps214;go_wp2_with fail;go_ret;exact ⟨rfl,by rw [HE.out.1,HE.out.2];exact LTo.refl HH.out.1 HH.out.2.1 HH.out.2.2⟩
 ·have hlt:n<l.length:=by omega
  obtain ⟨f,hf1,hf2⟩:=hfl hlt;have HE:=hid (show cp d l n=d.setF bf (·.cut (n+1)) from if_neg he);have HC:=hid (mg bf (by decide) ((n+1:Nat):Int) w h);obtain ⟨y1,y2⟩:=hf.cu (n:=bf) (by decide) hf1 hf2;rw [y1,y2] at HC;have hwr:IntKind.i64.wrap (1+(n:Int))=((n+1:Nat):Int):=by rw [IntWalk.i64_in _ (by omega)];omega
  have hn0:(0:Int)≤(n:Int):=by omega
  have hlt2:(n:Int)<(l.length:Int):=by omega
  have hne:((n:Int) == (l.length:Int))=false:=by simp;omega
  have HN:=hid hn;unfold ai cZ at *;clear h hl hx hf hfl hv he hf1 hf2 y1 y2 hlt hn;go_enter Tryz.func214,Tryz.ntmps214;go_wp2_with fail;refine HC.out.mono ?_;rintro e w1 ⟨rfl,hr⟩;have HK:=hid ((LTo.dk HH.out.2.1 HH.out.2.2 hr).keep n HN.out);unfold ai at HK;clear hr;go_wp2_with fail;refine HK.out.mono ?_;rintro e w2 ⟨rfl,hr⟩;have HR:=hid hr;clear hr;go_wp2_with fail;go_ret;exact ⟨rfl,by rw [HE.out];exact HR.out⟩
theorem eS {k n m:Nat} {b:By} (hb:b.length=232):(aI k n m b).take 232=b:=by unfold aI di;simp only [List.append_assoc];rw [List.take_append_of_le_length (by omega),List.take_of_length_le (by omega)]
structure LgHas (d:Dk) (l:List Fr) (n:Nat) (s:By):Prop where
 at_:∃ (i k m:Nat) (f:Fi),aC (bA l) (n:Int)=some (i:Int)∧i<l.length∧d.file bf=some f∧f.now[i+1]?=some (aI k n m s)
 len:s.length=232
theorem uy (n:Nat) (w:World) (hl:LgIs w D.gd M l) (hn:n<4096) (hno:aC (bA l) (n:Int)=none):
  Calls Tryz.prog 157 #[ai M.gl,.int .i64 n] w fun e w'=>e=.returned (.tuple #[.string ⟨#[]⟩,.bool false,.int .i64 0])∧w=w':=by
 obtain ⟨c0,c1,c2,cl,-⟩:=br hl.blk;have hlk:=hl.map.look2 zy (a:=(n:Int)) (bD (by omega));rw [hno] at hlk;unfold qg ny at hlk;simp only [Option.isSome_none] at hlk;clear hl hno;unfold ai at *;go_enter Tryz.func157,Tryz.ntmps157;go_wp2_with fail;go_ret3;exact ⟨rfl,rfl⟩
theorem qq (n:Nat) (s:By) (w:World) (h:DkIs w D d) (hl:LgIs w D.gd M l) (hf:d.Fine) (hn:n<4096) (hh:LgHas d l n s):
  Calls Tryz.prog 157 #[ai M.gl,.int .i64 n] w fun e w'=>e=.returned (.tuple #[.string (aj s),.bool true,.int .i64 0])∧DkTo w D d w':=by
 obtain ⟨⟨i,k,m,f,hg,hi,hf1,hf2⟩,hs⟩:=hh;obtain ⟨c0,c1,c2,cl,-⟩:=br hl.blk;have hlk:=hl.map.look2 zy (a:=(n:Int)) (bD (by omega));rw [hg] at hlk;unfold qg ny at hlk;simp only [Option.isSome_some] at hlk;have HRD:=hid (kN bf (by decide) ((i+1:Nat):Int) w h);obtain ⟨r1,r2⟩:=hf.rd (n:=bf) (by decide) hf1 hf2;rw [r1,r2,hf.s (by decide)] at HRD;have hsz:(aj (aI k n m s)).size=256:=by rw [aw,bw hs]
 have HE:=hid (show (aj (aI k n m s)).extract 0 232=aj s by rw [cV,List.drop_zero,aR,show 232 - 0=232 from rfl,eS hs]);have hwr:IntKind.i64.wrap (1+(i:Int))=((i+1:Nat):Int):=by rw [IntWalk.i64_in _ (by have:=hl.ok.n;omega)];omega
 generalize aj (aI k n m s)=sec at *;unfold ai cZ at *;clear h hl hf hg hi hf1 hf2 r1 r2 hs;go_enter Tryz.func157,Tryz.ntmps157;go_wp2_with fail;refine HRD.out.mono ?_;rintro e w1 ⟨rfl,hd1,hc1⟩;have HT:=hid (show DkTo w D d w1 from ⟨D,rfl,hd1,fun _ hk=>.inl hk,hc1.mono fun k _ e=>.inl e⟩);clear hd1 hc1;go_wp2_with fail;go_ret3;exact ⟨by rw [← HE.out];rfl,HT.out⟩
end
end Go.Proofs.YtdmhbgpejppbkaaGreat
namespace Go.Proofs.YtdmhbgpejppbkaaGreat
open Go.RowKit Go.Maps
theorem yN (f:Fr):∀ u ∈ tz f,u.oneCell'=true:=by intro u hu;simp only [tz,List.mem_cons,List.not_mem_nil,or_false] at hu;rcases hu with rfl | rfl | rfl <;> rfl
theorem yT:ElemT Tryz.prog 194 214 tz 3 24:=
 ElemT.mk' (z:=.agg #[.int .i64 0,.int .u64 0,.bool false]) Tryz.underlying194 (by kernel_rfl) (by rfl) (by omega) fK yN
def zF (c:Bool):Nat:=if c then 6 else 5
def dO (l:List Fr) (n:Nat) (s:By) (c:Bool):By:=aI (zF c) n (mu l) s
def fB (d:Dk):Dk:=if (d.file bf).isSome then d else d.wr bf 0 topB
def dI (d:Dk) (l:List Fr) (n:Nat) (s:By) (c:Bool):Dk:=(fB d).wr bf (l.length+1) (dO l n s c)
def cE (l:List Fr) (n:Nat) (s:By) (c:Bool):List Fr:=l ++ [⟨n,cb (dO l n s c),c⟩]
structure CanAdd (d:Dk) (l:List Fr):Prop where
 fine:d.Fine
 file:(d.file bf=none∧l=[]∧d.files.length<8)∨∃ f,d.file bf=some f∧f.now.length=l.length+1
 room:(d.total:Int)+1<d.room
 n:l.length<20000
theorem pG (s:By):cb s<18446744073709551616:=by
 unfold cb
 split
 ·rename_i h
  exact vA _ (by rw [List.length_drop];omega)
 ·decide
theorem xY {l:List Fr} (h:FrOk l):mu l<18446744073709551616:=by
 unfold mu
 split
 ·exact pG _
 ·rename_i f hf
  exact (h.f f (List.mem_of_getLast? hf)).2
theorem FrOk.add {l:List Fr} (h:FrOk l) (hn:l.length<20000) {n:Nat} (h1:n<4096) (s:By) (c:Bool):FrOk (cE l n s c):=by
 refine ⟨by unfold cE;rw [List.length_append];simp only [List.length_cons,List.length_nil];omega,fun x hx=>?_⟩;rcases List.mem_append.1 hx with hx | hx
 ·exact h.f x hx
 ·rw [List.mem_singleton.1 hx];exact ⟨h1,pG _⟩
theorem LgIs.added {w w1 w2 w3:World} {gd:Nat} {M:LgM} {l:List Fr} {n:Nat} {s:By} {c:Bool} {v':Value} (h:LgIs w gd M l) (hok:FrOk (cE l n s c)) (hm:qV w1 M.gm (aX (bA l) (n:Int) (l.length:Int))) (hc1:Ch (fun k=>k=M.gm) w w1)
  (hb:Below w1.heap.size w1 w2) (hr:Own tz 3 214 0 w3 v' (cE l n s c)) (hg:w2.grownBy w3 M.vf.ownBlock) (hat:v'.ownBlock=M.vf.ownBlock∨v'.ownBlock=some w2.heap.size):zo w gd M (cE l n s c) (w3.setCell ⟨M.gl,1,none⟩ v'):=by
 have hc2:Ch (fun k=>M.vf.ownBlock=some k) w2 w3:=Ch.of_grown hg fun k hk=>hk
 have hc12:Ch (iA M) w w2:=(hc1.mono fun k _ e=>.inr (.inl e)).trans (Ch.of_below hb);have hc13:Ch (iA M) w w3:=hc12.trans (hc2.mono fun k _ e=>.inr (.inr e));have hc4:Ch (fun k=>k=M.gl) w3 (w3.setCell ⟨M.gl,1,none⟩ v'):=(Ch.refl (fun k=>k=M.gl) w3).setCell (p:=⟨M.gl,1,none⟩) rfl _;have hgl:=ab h.blk;have hgm:=h.map.lt;have s1:=hc12.size;have hb3:w3.heap[M.gl]?=some (uz gd M):=hc2.keep ((Ch.of_below (S:=fun _=>False) hb).keep (hc1.keep h.blk h.n1) id) h.n2;have hm3:qV w3 M.gm (bA (cE l n s c)):=by unfold cE;rw [ir];exact (hm.ch (S:=fun _=>False) (Ch.of_below hb) id).ch hc2 h.n3
 refine ⟨{ M with vf:=v' },rfl,⟨hok,ae hb3 1 v',hr.ch hc4 fun k hk e=>?_,hm3.ch hc4 (fun e=>h.n1 e.symm),h.n1,fun e=>?_,fun e=>?_⟩,fun k hk=>?_,hc13.trans (hc4.mono fun k _ e=>.inl e)⟩
 ·rcases hat with hat | hat
  ·rw [hat,e] at hk;exact h.n2 hk
  ·rw [hat] at hk;injection hk with hk;omega
 ·rcases hat with hat | hat
  ·exact h.n2 (hat ▸ e)
  ·have e:=hat.symm.trans e;injection e with e;simp only at e;omega
 ·rcases hat with hat | hat
  ·exact h.n3 (hat ▸ e)
  ·have e:=hat.symm.trans e;injection e with e;simp only at e;omega
 ·rcases hk with e | e | e
  ·exact .inl (.inl e)
  ·exact .inl (.inr (.inl e))
  ·rcases hat with hat | hat
   ·exact .inl (.inr (.inr (hat ▸ e)))
   ·have e:=hat.symm.trans e;injection e with e;right;omega
end Go.Proofs.YtdmhbgpejppbkaaGreat
