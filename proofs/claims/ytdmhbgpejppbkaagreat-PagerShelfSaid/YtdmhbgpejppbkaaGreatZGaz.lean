/- pager: done, Head, start, Begin. pager: wanted, change where nothing is to be kept. The plain law of pages at hand and on the disk: nothing but the journal's foot and pages written. The plain law of a pager's pages: what is at hand and what is on the disk are the pages. A page fetched, a page changed, seen as pages; inner.Get, inner.Put. -/
import Derived.Test.YtdmhbgpejppbkaaGreatZGay
import Derived.Deep.RegionWith
set_option maxRecDepth 100000
set_option maxHeartbeats 4000000
namespace Go.Proofs.YtdmhbgpejppbkaaGreat
open Go.Lib (hid)
open Go.RowKit Go.Maps
theorem cF (w:World) {L:PgL} {P:Pgr} (h:PgIs w L P):
  Calls Tryz.prog 92 #[au L.gp,.int .i64 0] w fun e w'=>e=.returned (.int .i64 0)∧PTo w L { P with wrote:=true } w':=by
 have hC:=ai h.blk;have hl:=hC.lt;have c14:=hC.c14;have z14:=hC.fz 14
 have HF:=hid (show PTo w L { P with wrote:=true } (w.setCell ⟨L.gp,14,none⟩ (.bool true)) from
  h.cell 14 (.bool true) (ae h.blk 14 (.bool true)) rfl rfl rfl rfl rfl ⟨h.ok.s1,h.ok.s2,h.ok.base,h.ok.hp,h.ok.wp,h.ok.nos⟩)
 unfold au;clear h hC;go_enter Tryz.func92,Tryz.ntmps92;go_wp2_with fail;go_ret;exact ⟨rfl,HF.out⟩
theorem mm (c:Int) (hc:c≠0) (w:World) (gp:Nat):
  Calls Tryz.prog 92 #[au gp,.int .i64 c] w fun e w'=>e=.returned (.int .i64 c)∧w=w':=by
 have h0:(c == 0)=false:=by simpa using hc
 unfold au;clear hc;go_enter Tryz.func92,Tryz.ntmps92;go_wp2_with fail;go_ret;exact ⟨rfl,rfl⟩
def Pgr.now (P:Pgr):He:=if P.busy then P.work else P.head
theorem jk (w:World) {L:PgL} {P:Pgr} (h:PgIs w L P):
  Calls Tryz.prog 13 #[au L.gp] w fun e w'=>e=.returned (eH P.now)∧Below w.heap.size w w':=by
 have hA:Below w.heap.size w (w.alloc gg):=(Below.refl _ w).alloc (Nat.le_refl _) _;have HA:=hid hA;have HNW:=hid (fk _ (h.below hA));have HX:=hid (ah (w0:=w) (g:=w.heap.size) (o:=gg) rfl);have HE:=hid (show eH (if P.busy then P.work else P.head)=eH P.now from rfl);rw [HE.out] at HNW;generalize P.now=H at *;unfold au gg eH ko at *;clear h hA;go_enter Tryz.func13,Tryz.ntmps13;go_wp2_with fail;refine HNW.out.mono ?_;rintro e w1 ⟨rfl,hb⟩;have hX:=aw HX.out hb;have HB1:=hid (HA.out.trans (hb.mono HA.out.size));have hl:=af hX;have hz:=ab hX;have z0:=hz 0;have z1:=hz 1;have z2:=hz 2;have z3:=hz 3;have z4:=hz 4;have z5:=hz 5;have y0:=aa hX 0;have y1:=aa hX 1;have y2:=aa hX 2;have y3:=aa hX 3;have y4:=aa hX 4;have y5:=aa hX 5;simp only [List.getElem?_toArray,List.getElem?_cons_succ,List.getElem?_cons_zero] at y0 y1 y2 y3 y4 y5;obtain ⟨w8,hw8⟩:∃ w8,w8=(((((w1.setCell ⟨w.heap.size,0,none⟩ (.int .i64 H.mode)).setCell ⟨w.heap.size,1,none⟩ (.int .i64 H.pages)).setCell ⟨w.heap.size,2,none⟩ (.int .i64 H.trunk)).setCell ⟨w.heap.size,3,none⟩ (.int .i64 H.spare)).setCell ⟨w.heap.size,4,none⟩ (.int .i64 H.root)).setCell ⟨w.heap.size,5,none⟩ (.int .u64 H.change):=⟨_,rfl⟩;have HG8:=hid (show w8.heap[w.heap.size]?=some (cX H) by
  rw [hw8];exact ae (ae (ae (ae (ae (ae hX 0 (.int .i64 H.mode)) 1 (.int .i64 H.pages)) 2 (.int .i64 H.trunk)) 3 (.int .i64 H.spare)) 4 (.int .i64 H.root)) 5 (.int .u64 H.change))
 have HB8:=hid (show Below w.heap.size w w8 by
  rw [hw8];exact (((((HB1.out.setCell (p:=⟨w.heap.size,0,none⟩) (Nat.le_refl _) _).setCell (p:=⟨w.heap.size,1,none⟩) (Nat.le_refl _) _).setCell (p:=⟨w.heap.size,2,none⟩) (Nat.le_refl _) _).setCell (p:=⟨w.heap.size,3,none⟩) (Nat.le_refl _) _).setCell (p:=⟨w.heap.size,4,none⟩) (Nat.le_refl _) _).setCell (p:=⟨w.heap.size,5,none⟩) (Nat.le_refl _) _)
 have HW8:=hid hw8;clear hw8 hX hz hb;go_wp2_with fail;rw [← HW8.out];obtain ⟨q0,q1,q2,q3,q4,q5,ql⟩:=ct HG8.out;exact bodyPost_ret (v:=.agg #[.int .i64 H.mode,.int .i64 H.pages,.int .i64 H.trunk,.int .i64 H.spare,.int .i64 H.root,.int .u64 H.change]) (by simp [results,Tryz.results13,go_sem,q0,q1,q2,q3,q4,q5]) rfl ⟨rfl,HB8.out⟩
theorem pX (w:World):Calls Tryz.prog 109 #[.pointer none] w fun e w'=>e=.returned (.int .i64 0)∧w=w':=by go_enter Tryz.func109,Tryz.ntmps109;go_wp2_with fail;go_ret;exact ⟨rfl,rfl⟩
def Pgr.started (P:Pgr):Pgr:={ P.ended with busy:=true,work:=P.head,mark:=0 }
def fQ (w:World) (g:Nat) (h:He):World:=((((((((w.setCell ⟨g,13,none⟩ (.bool true)).setCell ⟨g,15,none⟩ (.int .i64 h.mode)).setCell ⟨g,16,none⟩ (.int .i64 h.pages)).setCell ⟨g,17,none⟩ (.int .i64 h.trunk)).setCell ⟨g,18,none⟩ (.int .i64 h.spare)).setCell ⟨g,19,none⟩ (.int .i64 h.root)).setCell ⟨g,20,none⟩ (.int .u64 h.change)).setCell ⟨g,22,none⟩ (.int .i64 0)).drew
theorem jC (w:World):w.drew.heap=w.heap:=rfl
theorem dH {w:World} {L:PgL} {P:Pgr} (h:w.heap[L.gp]?=some (co L P)) (H:He):((((((w.setCell ⟨L.gp,15,none⟩ (.int .i64 H.mode)).setCell ⟨L.gp,16,none⟩ (.int .i64 H.pages)).setCell ⟨L.gp,17,none⟩ (.int .i64 H.trunk)).setCell ⟨L.gp,18,none⟩ (.int .i64 H.spare)).setCell ⟨L.gp,19,none⟩ (.int .i64 H.root)).setCell ⟨L.gp,20,none⟩ (.int .u64 H.change)).heap[L.gp]?=some (co L { P with work:=H }):=by have s1:_=some (co L { P with work:={ P.work with mode:=H.mode } }):=ae h 15 (.int .i64 H.mode);have s2:_=some (co L { P with work:={ P.work with mode:=H.mode,pages:=H.pages } }):=ae s1 16 (.int .i64 H.pages);have s3:_=some (co L { P with work:={ P.work with mode:=H.mode,pages:=H.pages,trunk:=H.trunk } }):=ae s2 17 (.int .i64 H.trunk);have s4:_=some (co L { P with work:={ P.work with mode:=H.mode,pages:=H.pages,trunk:=H.trunk,spare:=H.spare } }):=ae s3 18 (.int .i64 H.spare);have s5:_=some (co L { P with work:={ P.work with mode:=H.mode,pages:=H.pages,trunk:=H.trunk,spare:=H.spare,root:=H.root } }):=ae s4 19 (.int .i64 H.root);exact ae s5 20 (.int .u64 H.change)
theorem nG {w:World} {L:PgL} {P:Pgr} (h:w.heap[L.gp]?=some (co L.bare P.ended)):(fQ w L.gp P.head).heap[L.gp]?=some (co L.bare P.started):=by unfold fQ;rw [jC];have s1:_=some (co L.bare { P.ended with busy:=true }):=ae h 13 (.bool true);have s2:=dH (L:=L.bare) s1 P.head;exact ae s2 22 (.int .i64 0)
theorem nF {w w1:World} {L:PgL} {P:Pgr} (hp:PgIs w1 L.bare P.ended) (hc:Ch (fun k=>k=L.gp) w w1):PTo w L P.started (fQ w1 L.gp P.head):=by
 have h2:Ch (fun k=>k=L.gp) w1 (fQ w1 L.gp P.head):=by unfold fQ;exact (((((((((Ch.refl (fun k=>k=L.gp) w1).setCell (p:=⟨L.gp,13,none⟩) rfl _).setCell (p:=⟨L.gp,15,none⟩) rfl _).setCell (p:=⟨L.gp,16,none⟩) rfl _).setCell (p:=⟨L.gp,17,none⟩) rfl _).setCell (p:=⟨L.gp,18,none⟩) rfl _).setCell (p:=⟨L.gp,19,none⟩) rfl _).setCell (p:=⟨L.gp,20,none⟩) rfl _).setCell (p:=⟨L.gp,22,none⟩) rfl _).drew
 refine ⟨L.bare,rfl,hp.setBlk (P':=P.started) h2 ?_ rfl rfl rfl rfl rfl ⟨hp.ok.s1,hp.ok.s2,hp.ok.base,hp.ok.hp,hp.ok.hp,hp.ok.nos⟩,fun k hk=>?_,(hc.trans h2).mono fun k _ e=>.inl e⟩
 ·exact nG hp.blk
 ·rcases hk with hk | hk | hk | hk | hk
  ·exact .inl (.inl hk)
  ·exact .inl (.inr (.inl hk))
  ·exact .inl (.inr (.inr (.inl hk)))
  ·exact hk.elim
  ·rcases hk with hk | hk
   ·cases hk
   ·cases hk
theorem mf (w:World) {L:PgL} {P:Pgr} (h:PgIs w L P):
  Calls Tryz.prog 56 #[au L.gp] w fun e w'=>e=.returned (.tuple #[])∧PTo w L P.started w':=by
 have HE:=hid (fo w h);have HH:=hid h;unfold au at *;clear h;go_enter Tryz.func56,Tryz.ntmps56;go_wp2_with fail;refine HE.out.mono ?_;rintro e w1 ⟨rfl,hp,hc⟩;have hC:=ai hp.blk;have hl:=hC.lt;have hz:=hC.fz;have c2:=hC.c2;have c3:=hC.c3;have c4:=hC.c4;have c5:=hC.c5;have c6:=hC.c6;have c7:=hC.c7;have c9:=hC.c9;have c13:=hC.c13;have c15:=hC.c15;have c16:=hC.c16;have c17:=hC.c17;have c18:=hC.c18;have c19:=hC.c19;have c20:=hC.c20;have c22:=hC.c22;have z13:=hz 13;have z15:=hz 15;have z16:=hz 16;have z17:=hz 17;have z18:=hz 18;have z19:=hz 19;have z20:=hz 20;have z22:=hz 22;have HP:=hid (And.intro hp hc);have HL:=hid pX;simp only [PgL.bare,Pgr.ended] at hl c2 c3 c4 c5 c6 c7 c9 c13 c15 c16 c17 c18 c19 c20 c22 z13 z15 z16 z17 z18 z19 z20 z22;clear hp hc hC hz;have HF:=hid (nF HP.out.1 HP.out.2);unfold fQ at HF;generalize P.head=H at *;generalize P.work=W at *;generalize P.mark=M at *;go_upto_region 1 with fail
 go_region_with (go_at_call 109;refine (HL.out _).mono ?_;rintro e w2 ⟨rfl,rfl⟩)
 all_goals exact bodyPost_end (results_none rfl _ _ _) rfl ⟨rfl,HF.out⟩
theorem eL (w:World) {L:PgL} {P:Pgr} (h:PgIs w L P) (hu:P.Up):
  Calls Tryz.prog 19 #[au L.gp] w fun e w'=>e=.returned (.int .i64 (if P.busy then 40 else 0))∧PTo w L (if P.busy then P else P.started) w':=by
 have hA:Below w.heap.size w (w.alloc (.cells #[.bool false] 4)):=(Below.refl _ w).alloc (Nat.le_refl _) _;have HA:=hid hA;have hX:(w.alloc (.cells #[.bool false] 4)).heap[w.heap.size]?=some (.cells #[.bool false] 4 (0,0)):=ah rfl;have HBG:=hid (aN false w.heap.size _ (h.below hA) hu (aa hX 0) (af hX));have HH:=hid h;unfold au at *;clear hA hX hu h;cases hb:P.busy
 ·rw [hb] at HBG;go_enter Tryz.func19,Tryz.ntmps19;go_wp2_with fail;refine HBG.out.mono ?_;rintro e w1 ⟨rfl,hb1⟩;have HB1:=hid (HA.out.trans (hb1.mono HA.out.size));have HST:=hid (mf w1 (HH.out.below HB1.out));unfold au at HST;clear hb1;go_wp2_with fail;refine HST.out.mono ?_;rintro e w2 ⟨rfl,hr⟩;have HR:=hid (hr.pre HB1.out);clear hr;go_wp2_with fail;go_ret;exact ⟨rfl,HR.out⟩
 ·rw [hb] at HBG;go_enter Tryz.func19,Tryz.ntmps19;go_wp2_with fail;refine HBG.out.mono ?_;rintro e w1 ⟨rfl,hb1⟩;have HB1:=hid (HA.out.trans (hb1.mono HA.out.size));clear hb1;go_wp2_with fail;go_ret;exact ⟨rfl,(PTo.refl HH.out).post HB1.out⟩
theorem ey {w:World} {v:Value} {gs:List Nat} {l:List Sv} (h:SvIs w v gs l):∃ A c,v=.slice A l.length c∧l.length≤c:=by
 obtain ⟨A,c,h1,h2⟩:=cq h.row;have hl:=h.len;have e:((l.map (·.head)).zip gs).length=l.length:=by rw [List.length_zip,List.length_map,hl,Nat.min_self]
 rw [e] at h1 h2;exact ⟨A,c,h1,h2⟩
theorem kb (n:Nat) (w:World) {L:PgL} {P:Pgr} (h:PgIs w L P) (hb:P.base≤n) (hs:P.saves=[]):
  Calls Tryz.prog 140 #[au L.gp,.int .i64 n] w fun e w'=>e=.returned (.tuple #[.bool false,.bool false])∧Below w.heap.size w w':=by
 have hA:Below w.heap.size w (w.alloc (.cells #[.int .i64 n] 3)):=(Below.refl _ w).alloc (Nat.le_refl _) _;have HA:=hid hA;have hX:(w.alloc (.cells #[.int .i64 n] 3)).heap[w.heap.size]?=some (.cells #[.int .i64 n] 3 (0,0)):=ah rfl;have HH:=hid (h.below hA);obtain ⟨A,c,hv,-⟩:=ey h.sv;rw [hs] at hv;have HV:=hid hv;have HX:=hid hX;have hbn2:decide (n<P.base)=false:=decide_eq_false (by omega);unfold au at *;clear hA hX h hb hs hv;go_enter Tryz.func140,Tryz.ntmps140;go_upto_region 1 with fail
 have hw0:∃ w0,w.alloc (.cells #[.int .i64 n] 3)=w0:=⟨_,rfl⟩;obtain ⟨w0,hw0⟩:=hw0;rw [hw0] at HA HH HX ⊢;clear hw0;have hC:=ai HH.out.blk;have hl:=hC.lt;have x0:=aa HX.out 0;have xl:=af HX.out;simp only [List.getElem?_toArray,List.getElem?_cons_zero] at x0;have c9:=hC.c9;have c8:=hC.c8;refine ar (by kernel_rfl) (by kernel_rfl) ?_;have f8:=aE c8 hl;have f9:=aE c9 hl;have fx:=aE x0 xl
 repeat (go_big_quiet_step (fail))
 refine wpQuiet_nil ?_;rintro w1 ⟨⟨_,hb1⟩,rfl⟩;have HB1:=hid (HA.out.trans (hb1.mono HA.out.size));have hC:=ai (HH.out.below hb1).blk;have hl:=hC.lt;have c21:=hC.c21;rw [HV.out] at c21;clear hb1 hC x0 xl c9 c8 f8 f9 fx;go_wp2_with fail;go_ret2;exact ⟨rfl,HB1.out⟩
theorem cV (n:Nat) (s:By) (w:World) {L:PgL} {P:Pgr} (h:PgIs w L P) (hb:P.base≤n) (hs:P.saves=[]) (hn:n<4096) (hl:(P.gone n s true).length≤1000) (hc:bw (P.putc n s true) (P.gone n s true)):
  Calls Tryz.prog 93 #[au L.gp,.int .i64 n,.string (ak s)] w fun e w'=>e=.returned (.int .i64 0)∧PTo w L (P.hold n s true) w':=by
 have HW:=hid (kb n w h hb hs);have HHD:=hid (fun (w':World) (hb:Below w.heap.size w w')=>bX n s true w' (h.below hb) hn hl hc);unfold au at *;clear h hb hs hn hl hc;go_enter Tryz.func93,Tryz.ntmps93;go_wp2_with fail;refine HW.out.mono ?_;rintro e w1 ⟨rfl,hb1⟩;have HB1:=hid hb1;clear hb1;go_wp2_with fail;refine (HHD.out w1 HB1.out).mono ?_;rintro e w2 ⟨rfl,hr⟩;have HR:=hid (hr.pre HB1.out);clear hr;go_wp2_with fail;go_ret;exact ⟨rfl,HR.out⟩
end Go.Proofs.YtdmhbgpejppbkaaGreat
namespace Go.Proofs.YtdmhbgpejppbkaaGreat
open Go.RowKit
def gY (B:Int→By) (n:Int) (s:By):Int→By:=fun m=>if m=n then s else B m
theorem qb:∀ K:List By,K.Nodup→(∀ k ∈ K,k=bg∨k=aI)→K.length≤2∧∀ f:By→Nat,(K.map f).sum≤f bg+f aI
 | [],_,_=>⟨by simp,fun f=>by simp⟩
 | [a],_,h=>⟨by simp,fun f=>by
     rcases h a (by simp) with e | e <;> (subst e;simp)⟩
 | [a,b],hn,h=>⟨by simp,fun f=>by
     have hab:a≠b:=by simpa using hn
     rcases h a (by simp) with e | e <;> rcases h b (by simp) with e2 | e2
     ·exact (hab (e.trans e2.symm)).elim
     ·subst e e2;simp
     ·subst e e2;simp;omega
     ·exact (hab (e.trans e2.symm)).elim⟩
 | a :: b :: c :: l,hn,h=>by
     exfalso;simp only [List.nodup_cons,List.mem_cons,not_or] at hn;obtain ⟨⟨h1,h2,-⟩,⟨h3,-⟩,-⟩:=hn;rcases h a (by simp) with e | e <;> rcases h b (by simp) with e2 | e2 <;> rcases h c (by simp) with e3 | e3
     ·exact h1 (e.trans e2.symm)
     ·exact h1 (e.trans e2.symm)
     ·exact h2 (e.trans e3.symm)
     ·exact h3 (e2.trans e3.symm)
     ·exact h3 (e2.trans e3.symm)
     ·exact h2 (e.trans e3.symm)
     ·exact h1 (e.trans e2.symm)
     ·exact h1 (e.trans e2.symm)
theorem cY {d:Dk} (h:d.Ok) (hk:∀ p ∈ d.files,p.1=bg∨p.1=aI):d.total≤d.len bg+d.len aI∧d.files.length≤2:=by
 have h1:=qb (d.files.map (·.1)) h.nd (fun k hm=>by
  obtain ⟨p,hp,rfl⟩:=List.mem_map.1 hm;exact hk p hp)
 rw [List.length_map] at h1;exact ⟨by rw [gz h];exact h1.2 (ld d),h1.1⟩
theorem ir {d:Dk} (h:d.Ok) (n:By):((d.file n).getD .empty).Ok:=by
 cases hf:d.file n with
 | none=>exact ⟨rfl,rfl,fun s hs=>(by cases hs),by simp [Fi.empty],fun s hs=>(by cases hs)⟩
 | some f=>exact bV h hf
theorem pi {d:Dk} (h:d.Ok) {n:By} {i:Nat} {s:By} (hs:s.length=256) (hf:d.files.length<8) (hl:d.len n<100000):(d.wr n i s).Ok:=
 dE h (pI (ir h n) hs fun _=>hl) fun _=>hf
theorem lU {d:Dk} (h:d.Ok) {n:By} (hf:d.files.length<8):(d.setF n Fi.settle).Ok:=
 dE h (jg (ir h n)) fun _=>hf
theorem jL {d:Dk} {n:By} {i:Nat} {s:By} (hn:n=bg∨n=aI) (hk:∀ p ∈ d.files,p.1=bg∨p.1=aI):∀ p ∈ (d.wr n i s).files,p.1=bg∨p.1=aI:=fun p hp=>by
 rcases eo hp with e | e
 ·rw [e];exact hn
 ·exact hk p e
theorem nK {d:Dk} {n:By} {g:Fi→Fi} (hn:n=bg∨n=aI) (hk:∀ p ∈ d.files,p.1=bg∨p.1=aI):∀ p ∈ (d.setF n g).files,p.1=bg∨p.1=aI:=fun p hp=>by
 rcases eo hp with e | e
 ·rw [e];exact hn
 ·exact hk p e
structure DOk (d:Dk) (nt:Option Jn):Prop where
 ok:d.Ok
 fine:d.Fine
 room:d.room=16384
 keys:∀ p ∈ d.files,p.1=bg∨p.1=aI
 mlen:d.len aI≤4096
 jn:(nt=none∧d.file bg=none)∨∃ j,nt=some j∧j.feet=1∧j.loose=0∧d.len bg≤1
theorem DOk.jl {d:Dk} {nt:Option Jn} (h:DOk d nt):d.len bg≤1:=by
 rcases h.jn with ⟨-,h⟩ | ⟨j,-,-,-,h⟩
 ·rw [Dk.len_none h];omega
 ·exact h
theorem jn_ne:bg≠aI:=by decide
theorem nM {P:Pgr} (h:DOk P.d P.notes):∃ d' j',P.sealed={ P with d:=d',notes:=some j',marred:=true }∧DOk d' (some j')∧d'.file aI=P.d.file aI∧∀ j,P.note.notes=some j→CanSeal P.d j:=by
 have ht:=cY h.ok h.keys;have hjl:=h.jl;have hml:=h.mlen;rcases h.jn with ⟨hn,hf⟩ | ⟨j,hn,hj1,hj2,hj3⟩
 ·have e0:P.note={ P with notes:=some ⟨P.base,P.head.change+1,0,0,[]⟩ }:=by unfold Pgr.note;rw [hn]
  have hl0:P.d.len bg=0:=Dk.len_none hf;obtain ⟨j0,hj0⟩:∃ j0:Jn,j0=⟨P.base,P.head.change+1,0,0,[]⟩:=⟨_,rfl⟩;have el:j0.loose=0:=by rw [hj0]
  have ef:j0.feet=0:=by rw [hj0]
  rw [← hj0] at e0;have e1:j0.sealD P.d=(P.d.wr bg (P.d.len bg) (aF 3 j0.loose j0.salt (bK j0.pages j0.feet))).setF bg Fi.settle:=by unfold Jn.sealD;rw [if_neg (by omega),if_neg (by omega)]
  have e2:j0.sealJ={ j0 with feet:=j0.feet+1,loose:=0 }:=by unfold Jn.sealJ;rw [if_neg (by omega)]
  have hs:(aF 3 j0.loose j0.salt (bK j0.pages j0.feet)).length=256:=cZ (jy _ _);have k1:=pi h.ok (n:=bg) (i:=P.d.len bg) hs (by omega) (by omega);have k2:=jL (d:=P.d) (i:=P.d.len bg) (s:=aF 3 j0.loose j0.salt (bK j0.pages j0.feet)) (.inl rfl) h.keys;have ht2:=cY k1 k2;refine ⟨j0.sealD P.d,j0.sealJ,?_,⟨?_,?_,?_,?_,?_,?_⟩,?_,fun j hj=>?_⟩
  ·unfold Pgr.sealed Pgr.seal;rw [e0]
  ·rw [e1];exact lU k1 (by omega)
  ·rw [e1];exact (h.fine.wr).setF
  ·rw [e1];exact h.room
  ·rw [e1];exact nK (.inl rfl) k2
  ·rw [e1,iD k1,Dk.len_wr h.ok,if_neg fun x=>jn_ne x.1.symm];exact hml
  ·refine .inr ⟨_,rfl,by rw [e2,ef],by rw [e2],?_⟩;rw [e1,iD k1,Dk.len_wr h.ok,if_pos ⟨rfl,rfl⟩];omega
  ·rw [e1,Dk.setF_file k1,if_neg jn_ne.symm,Dk.wr_file h.ok,if_neg jn_ne.symm]
  ·rw [e0] at hj;injection hj with hj
   subst hj;exact ⟨h.fine,fun _=>by omega,by rw [h.room];omega,fun x=>by omega,by omega⟩
 ·have e0:P.note=P:=by unfold Pgr.note;rw [hn]
  have e1:j.sealD P.d=P.d:=by unfold Jn.sealD;rw [if_pos ⟨by omega,hj2⟩]
  have e2:j.sealJ=j:=by unfold Jn.sealJ;rw [if_pos ⟨by omega,hj2⟩]
  refine ⟨P.d,j,?_,⟨h.ok,h.fine,h.room,h.keys,h.mlen,.inr ⟨j,rfl,hj1,hj2,hj3⟩⟩,rfl,fun x hx=>?_⟩
  ·unfold Pgr.sealed Pgr.seal;rw [e0,hn];simp only [e1,e2]
  ·rw [e0,hn] at hx;injection hx with hx
   subst hx;exact ⟨h.fine,fun _=>by omega,by rw [h.room];omega,fun x=>by omega,by omega⟩
structure FillB (d:Dk) (k:Nat):Prop where
 ok:(d.fill aI k).Ok
 a:FillOk d (d.fill aI k) k
 now:(((d.fill aI k).file aI).getD .empty).now=((d.file aI).getD .empty).now ++ List.replicate k zeroS
 oth:(d.fill aI k).file bg=d.file bg
 keys:∀ p ∈ (d.fill aI k).files,p.1=bg∨p.1=aI
theorem sE {d:Dk} {nt:Option Jn} (h:DOk d nt):∀ k:Nat,d.len aI+k≤4096→FillB d k
 | 0,_=>⟨h.ok,nh h.fine fun _=>by have:=(cY h.ok h.keys).2;omega,by show _=_ ++ [];rw [List.append_nil];rfl,rfl,h.keys⟩
 | k+1,hk=>by
   have ih:=sE h k (by omega);have hl:=ih.a.len;have ht:=cY ih.ok ih.keys;have hok:=pi ih.ok (n:=aI) (i:=d.len aI+k) fK (by omega) (by omega);refine ⟨hok,ng ih.a ih.ok,?_,?_,jL (.inr rfl) ih.keys⟩
   ·show ((((d.fill aI k).wr aI (d.len aI+k) zeroS).file aI).getD .empty).now=_;have hlen:(((d.fill aI k).file aI).getD .empty).now.length=d.len aI+k:=hl;rw [Dk.wr_file ih.ok,if_pos rfl,Option.getD_some,pJ (by omega),← hlen,List.take_length,List.drop_eq_nil_of_le (by omega),ih.now,List.replicate_succ',List.append_assoc]
   ·show ((d.fill aI k).wr aI (d.len aI+k) zeroS).file bg=_;rw [Dk.wr_file ih.ok,if_neg jn_ne];exact ih.oth
theorem tc {d:Dk} {nt:Option Jn} (h:DOk d nt) {n:Nat} {s:By} (hn:n<4096) (hs:s.length=232):
  DOk (d.lay n s) nt∧bm (d.lay n s) n s∧∀ m t,m≠n→bm d m t→bm (d.lay n s) m t:=by
 have hml:=h.mlen;have hB:=sE h (n - d.len aI) (by omega);have ht:=cY hB.ok hB.keys;have hl:(d.fill aI (n - d.len aI)).len aI=d.len aI+(n - d.len aI):=hB.a.len;have hsl:(aF 1 n 0 s).length=256:=cZ hs;have k1:=pi hB.ok (n:=aI) (i:=n) hsl (by omega) (by omega);have hlen:(((d.fill aI (n - d.len aI)).file aI).getD .empty).now.length=d.len aI+(n - d.len aI):=hl;have hfile:(d.lay n s).file aI=some ((((d.fill aI (n - d.len aI)).file aI).getD .empty).put n (aF 1 n 0 s)):=by unfold Dk.lay Dk.put;rw [Dk.wr_file hB.ok,if_pos rfl]
 have hnow:((((d.fill aI (n - d.len aI)).file aI).getD .empty).put n (aF 1 n 0 s)).now=((((d.fill aI (n - d.len aI)).file aI).getD .empty).now.take n) ++ aF 1 n 0 s :: ((((d.fill aI (n - d.len aI)).file aI).getD .empty).now.drop (n+1)):=pJ (by omega);refine ⟨⟨k1,hB.a.fine.wr,hB.a.room.trans h.room,jL (.inr rfl) hB.keys,?_,?_⟩,⟨_,hfile,?_⟩,fun m t hm ht2=>?_⟩
 ·show ((d.fill aI (n - d.len aI)).wr aI n (aF 1 n 0 s)).len aI≤4096;rw [Dk.len_wr hB.ok,hl]
  split <;> omega
 ·have hj:(d.lay n s).file bg=d.file bg:=by show ((d.fill aI (n - d.len aI)).wr aI n (aF 1 n 0 s)).file bg=_;rw [Dk.wr_file hB.ok,if_neg jn_ne,hB.oth]
  have hj2:(d.lay n s).len bg=d.len bg:=by unfold Dk.len;rw [hj]
  rw [hj,hj2];exact h.jn
 ·rw [hnow,List.getElem?_append_right (by rw [List.length_take];omega),List.length_take,Nat.min_eq_left (by omega),Nat.sub_self];rfl
 ·obtain ⟨f,hf,hfm⟩:=ht2;have hfl:m<f.now.length:=by
   by_cases hx:m<f.now.length
   ·exact hx
   ·rw [List.getElem?_eq_none (by omega)] at hfm;cases hfm
  have hold:(((d.fill aI (n - d.len aI)).file aI).getD .empty).now[m]?=some (aF 1 m 0 t):=by rw [hB.now,hf,Option.getD_some,List.getElem?_append_left hfl];exact hfm
  have hml2:m<(((d.fill aI (n - d.len aI)).file aI).getD .empty).now.length:=by
   by_cases hx:m<(((d.fill aI (n - d.len aI)).file aI).getD .empty).now.length
   ·exact hx
   ·rw [List.getElem?_eq_none (by omega)] at hold;cases hold
  refine ⟨_,hfile,?_⟩;rw [hnow];by_cases hmn:m<n
  ·rw [List.getElem?_append_left (by rw [List.length_take];omega),List.getElem?_take_of_lt hmn];exact hold
  ·rw [List.getElem?_append_right (by rw [List.length_take];omega),List.length_take,Nat.min_eq_left (by omega),show m - n=(m - n - 1)+1 by omega,List.getElem?_cons_succ,List.getElem?_drop,show n+1+(m - n - 1)=m by omega];exact hold
structure Core (d:Dk) (ca:List On) (B:Int→By) (N:Nat) (lost:List Pg):Prop where
 kv:(ca.map (·.1)).Nodup
 rng:∀ x ∈ ca,∃ m:Nat,x.1=m∧1≤m∧m<N∧x.2.1=ak (B m)
 cln:∀ x ∈ ca,x.2.2=false→∀ m:Nat,x.1=m→bm d m (B m)
 lst:∀ p ∈ lost,∃ m:Nat,p.n=m∧1≤m∧m<N∧p.s=ak (B m)
 all:∀ m:Nat,1≤m→m<N→(∃ x ∈ ca,x.1=m)∨(∃ p ∈ lost,p.n=m)∨bm d m (B m)
theorem Core.up {d d':Dk} {ca:List On} {B:Int→By} {N:Nat} {lost:List Pg} (h:Core d ca B N lost) (hd:∀ m,bm d m (B m)→bm d' m (B m)):Core d' ca B N lost:=
 ⟨h.kv,h.rng,fun x hx hc m hm=>hd m (h.cln x hx hc m hm),h.lst,fun m h1 h2=>(h.all m h1 h2).imp id (fun h=>h.imp id (hd m))⟩
theorem Core.spill {d d':Dk} {ca:List On} {B:Int→By} {N n:Nat} {x:Pg} {lost:List Pg} (h:Core d ca B N (x :: lost)) (hx:x.n=n) (hn:bm d' n (B n)) (hd:∀ m t,m≠n→bm d m t→bm d' m t):Core d' ca B N lost:=by
 have h':Core d' ca B N (x :: lost):=h.up fun m hm=>by
  by_cases e:m=n
  ·subst e;exact hn
  ·exact hd m _ e hm
 refine ⟨h'.kv,h'.rng,h'.cln,fun p hp=>h'.lst p (List.mem_cons_of_mem _ hp),fun m h1 h2=>?_⟩;rcases h'.all m h1 h2 with h3 | ⟨p,hp,hpm⟩ | h3
 ·exact .inl h3
 ·rcases List.mem_cons.1 hp with rfl | hp
  ·right;right;have:m=n:=by omega
   subst this;exact hn
  ·exact .inr (.inl ⟨p,hp,hpm⟩)
 ·exact .inr (.inr h3)
def Pgr.Same (P Q:Pgr):Prop:=Q={ P with d:=Q.d,notes:=Q.notes,marred:=Q.marred }
theorem Pgr.Same.refl (P:Pgr):P.Same P:=rfl
theorem Pgr.Same.trans {P Q R:Pgr} (h:P.Same Q) (k:Q.Same R):P.Same R:=by unfold Pgr.Same at *;rw [k];generalize R.d=a at *;generalize R.notes=b at *;generalize R.marred=c at *;rw [h]
structure SpillP (P Q:Pgr) (n:Nat) (s:By):Prop where
 can:CanSpill P n s
 d:DOk Q.d Q.notes
 on:bm Q.d n s
 old:∀ m t,m≠n→bm P.d m t→bm Q.d m t
 same:P.Same Q
theorem pu {P:Pgr} (h:DOk P.d P.notes) (hc:P.head.change<1000) {n:Nat} {s:By} (hn:n<4096) (hs:s.length=232):SpillP P (P.spill n s) n s:=by
 obtain ⟨d',j',e,hd,hf,hcs⟩:=nM h;have hl:=tc hd hn hs;have ht:=cY hd.ok hd.keys;have hjl:=hd.jl;have hml:=hd.mlen;have eq:P.spill n s={ P with d:=d'.lay n s,notes:=some j',marred:=true }:=by unfold Pgr.spill;rw [e]
 rw [eq];refine ⟨⟨fun hno=>?_,by omega,hcs,by rw [e];exact hd.fine,fun _=>by rw [e];show d'.files.length<8;omega,by rw [e];show (d'.total:Int)+n+1≤d'.room;rw [hd.room];omega,hn,hs⟩,hl.1,hl.2.1,fun m t hm hon=>hl.2.2 m t hm ?_,rfl⟩
 ·rcases h.jn with ⟨-,h⟩ | ⟨j,hj,-⟩
  ·exact h
  ·rw [hno] at hj;cases hj
 ·obtain ⟨f,h1,h2⟩:=hon;exact ⟨f,by rw [hf];exact h1,h2⟩
theorem iR {P:Pgr} {x:Pg} {l:List Pg} (h0:0≤x.n) (h1:CanSpill P x.n.toNat (bs x.s)) (h2:bw (P.spill x.n.toNat (bs x.s)) l):bw P (x :: l):=fun k y hy=>by
 cases k with
 | zero=>
   injection hy with hy
   subst hy;exact ⟨h0,h1⟩
 | succ k=>exact h2 k y hy
theorem jf {B:Int→By} {N:Nat} (hN:N≤4096) (hB:∀ n,(B n).length=232):∀ (l:List Pg) (P:Pgr),DOk P.d P.notes→P.head.change<1000→Core P.d P.ca B N l→
  bw P l∧DOk (P.spills l).d (P.spills l).notes∧Core (P.spills l).d P.ca B N []∧P.Same (P.spills l)
 | [],P,h,_,hc=>⟨fun k x hx=>(by cases hx),h,hc,rfl⟩
 | x :: l,P,h,hch,hc=>by
   obtain ⟨m,hm,h1,h2,hxs⟩:=hc.lst x (by simp);have hS:=pu h hch (n:=m) (s:=B m) (by omega) (hB _);have e1:x.n.toNat=m:=by omega
   have e2:bs x.s=B m:=by rw [hxs,aP]
   have hs:=hS.same;have hca:(P.spill m (B m)).ca=P.ca:=by rw [hs]
   have hhd:(P.spill m (B m)).head=P.head:=by rw [hs]
   have ih:=jf hN hB l (P.spill m (B m)) hS.d (by rw [hhd];exact hch) (by rw [hca];exact hc.spill hm hS.on hS.old);rw [hca] at ih;have e3:P.spills (x :: l)=(P.spill m (B m)).spills l:=by show (P.spill x.n.toNat (bs x.s)).spills l=_;rw [e1,e2]
   rw [e3];exact ⟨iR (by omega) (by rw [e1,e2];exact hS.can) (by rw [e1,e2];exact ih.1),ih.2.1,ih.2.2.1,hS.same.trans ih.2.2.2⟩
structure Vw (P:Pgr) (B:Int→By) (N:Nat):Prop where
 up:P.Up
 s1:1≤P.size
 s2:P.size≤256
 d:DOk P.d P.notes
 base:P.base=0
 saves:P.saves=[]
 ch:P.head.change<1000
 fit:(P.ca.length:Int)≤P.size
 core:Core P.d P.ca B N []
 len:∀ n,(B n).length=232
 N:N≤4096
def Pgr.SameC (P Q:Pgr):Prop:=Q={ P with d:=Q.d,ca:=Q.ca,notes:=Q.notes,marred:=Q.marred }
theorem Pgr.SameC.refl (P:Pgr):P.SameC P:=rfl
theorem Pgr.SameC.trans {P Q R:Pgr} (h:P.SameC Q) (k:Q.SameC R):P.SameC R:=by unfold Pgr.SameC at *;rw [k];generalize R.d=a at *;generalize R.ca=e at *;generalize R.notes=b at *;generalize R.marred=c at *;rw [h]
theorem Pgr.Same.c {P Q:Pgr} (h:P.Same Q):P.SameC Q:=by
 have hc:Q.ca=P.ca:=by rw [h]
 unfold Pgr.SameC;rw [hc];exact h
theorem jA (d:Dk) (n:By):∀ k,(d.fill n k).life=d.life
 | 0=>rfl
 | k+1=>jA d n k
theorem lX (j:Jn) (d:Dk):(j.sealD d).life=d.life:=by
 unfold Jn.sealD
 split
 ·rfl
 ·split <;> rfl
theorem lR (P:Pgr) (n:Nat) (s:By):(P.spill n s).d.life=P.d.life:=by
 show ((P.sealed.d.fill aI _).put n s).life=_;rw [show ((P.sealed.d.fill aI (n - P.sealed.d.len aI)).put n s).life=(P.sealed.d.fill aI (n - P.sealed.d.len aI)).life from rfl,jA];show P.note.seal.d.life=_;unfold Pgr.seal
 split
 ·show ((_:Jn).sealD P.note.d).life=_;rw [lX,kj]
 ·rw [kj]
theorem gA:∀ (l:List Pg) (P:Pgr),(P.spills l).d.life=P.d.life
 | [],_=>rfl
 | x :: l,P=>(gA l (P.spill x.n.toNat (bs x.s))).trans (lR P _ _)
theorem mem_without {n:Int} {L:List On} {x:On}:x ∈ aD n L↔x ∈ L∧x.1≠n:=by unfold aD;rw [List.mem_filter];simp
theorem lM {n:Int} {L:List On} (h:(L.map (·.1)).Nodup):((aD n L).map (·.1)).Nodup:=h.sublist (List.Sublist.map _ List.filter_sublist)
theorem mS {n:Int} {L:List On} (h:(L.map (·.1)).Nodup) (v:ByteArray × Bool):((aD n L ++ [(n,v)]).map (·.1)).Nodup:=by rw [List.map_append,List.map_cons,List.map_nil,List.nodup_append];refine ⟨lM h,by simp,fun a ha b hb e=>?_⟩;obtain ⟨x,hx,rfl⟩:=List.mem_map.1 ha;rw [List.mem_singleton.1 hb] at e;exact (mem_without.1 hx).2 e
theorem pk {B:Int→By} {n:Int}:gY B n (B n)=B:=funext fun m=>by unfold gY;split <;> simp_all
theorem rh {B:Int→By} {n:Int} {s:By} (h:∀ n,(B n).length=232) (hs:s.length=232):∀ m,(gY B n s m).length=232:=fun m=>by unfold gY;split;exact hs;exact h m
theorem gQ {P:Pgr} {B:Int→By} {N N' n:Nat} {s:By} {dt:Bool} (h:Vw P B N) (h1:1≤n) (hn:n<N') (hNN:N'=N∨N'=N+1∧n=N) (hN:N'≤4096) (hs:s.length=232) (hd:dt=true∨bm P.d n s):
  (P.gone n s dt).length≤1000∧bw (P.putc n s dt) (P.gone n s dt)∧Vw (P.hold n s dt) (gY B n s) N'∧P.SameC (P.hold n s dt):=by
 obtain ⟨l,hl⟩:∃ l:List On,l=aD (n:Int) P.ca ++ [((n:Int),ak s,dt)]:=⟨_,rfl⟩;obtain ⟨k,hk⟩:∃ k:Nat,k=l.length - P.size.toNat:=⟨_,rfl⟩;have hg:P.gone n s dt=((l.take k).filter fun x=>x.2.2).map iY:=by unfold Pgr.gone fV;simp only [← hl,← hk]
 have hp:P.putc n s dt={ P with ca:=l.drop k }:=by unfold Pgr.putc fV;simp only [← hl,← hk]
 have hfit:=h.fit;have hs1:=h.s1;have hs2:=h.s2;have hwl:(aD (n:Int) P.ca).length≤P.ca.length:=List.length_filter_le _ _;have hll:l.length=(aD (n:Int) P.ca).length+1:=by rw [hl,List.length_append];rfl
 have hnd:(l.map (·.1)).Nodup:=by rw [hl];exact mS h.core.kv _
 have hmem:∀ x ∈ l,(x ∈ P.ca∧x.1≠(n:Int))∨x=((n:Int),ak s,dt):=fun x hx=>by
  rw [hl] at hx;rcases List.mem_append.1 hx with hx | hx
  ·exact .inl (mem_without.1 hx)
  ·exact .inr (List.mem_singleton.1 hx)
 have hlast:((n:Int),ak s,dt) ∈ l.drop k:=by
  have e:l.drop k=(aD (n:Int) P.ca).drop k ++ [((n:Int),ak s,dt)]:=by rw [hl,List.drop_append_of_le_length (by omega)]
  rw [e];simp
 have hr:∀ x ∈ l,∃ m:Nat,x.1=m∧1≤m∧m<N'∧x.2.1=ak (gY B n s m):=fun x hx=>by
  rcases hmem x hx with ⟨hx,hxn⟩ | rfl
  ·obtain ⟨m,e1,e2,e3,e4⟩:=h.core.rng x hx;exact ⟨m,e1,e2,by omega,by rw [e4];unfold gY;rw [if_neg (by rw [← e1];exact hxn)]⟩
  ·exact ⟨n,rfl,h1,hn,by unfold gY;rw [if_pos rfl]⟩
 have hon:∀ x ∈ l,x.2.2=false→∀ m:Nat,x.1=m→bm P.d m (gY B n s m):=fun x hx hc m hm=>by
  rcases hmem x hx with ⟨hx,hxn⟩ | rfl
  ·have:=h.core.cln x hx hc m hm;unfold gY;rw [if_neg (by rw [← hm];exact hxn)];exact this
  ·have e:n=m:=Int.natCast_inj.1 hm;subst e;unfold gY;rw [if_pos rfl];rcases hd with hd | hd
   ·rw [hd] at hc;cases hc
   ·exact hd
 have hcore:Core P.d (l.drop k) (gY B n s) N' (P.gone n s dt):=by
  rw [hg];refine ⟨hnd.sublist ((List.drop_sublist _ _).map _),fun x hx=>hr x (List.mem_of_mem_drop hx),fun x hx=>hon x (List.mem_of_mem_drop hx),fun p hp=>?_,fun m m1 m2=>?_⟩
  ·obtain ⟨x,hx,rfl⟩:=List.mem_map.1 hp;exact hr x (List.mem_of_mem_take (List.mem_filter.1 hx).1)
  ·by_cases e:m=n
   ·subst e;exact .inl ⟨_,hlast,rfl⟩
   ·have hu:gY B n s m=B m:=by unfold gY;rw [if_neg (by omega)]
    rcases h.core.all m m1 (by omega) with ⟨x,hx,hxm⟩ | ⟨p,hp,-⟩ | ho
    ·have hxl:x ∈ l:=by rw [hl];exact List.mem_append_left _ (mem_without.2 ⟨hx,by rw [hxm];omega⟩)
     rw [← List.take_append_drop k l] at hxl;rcases List.mem_append.1 hxl with hxt | hxd
     ·cases hdy:x.2.2
      ·exact .inr (.inr (by rw [hu];exact h.core.cln x hx hdy m hxm))
      ·exact .inr (.inl ⟨iY x,List.mem_map.2 ⟨x,List.mem_filter.2 ⟨hxt,hdy⟩,rfl⟩,hxm⟩)
     ·exact .inl ⟨x,hxd,hxm⟩
    ·cases hp
    ·exact .inr (.inr (by rw [hu];exact ho))
 have hgl:(P.gone n s dt).length≤1000:=by rw [hg,List.length_map];have:=List.length_filter_le (fun x:On=>x.2.2) (l.take k);rw [List.length_take] at this;omega
 have hB':=rh (n:=(n:Int)) h.len hs;have hsp:=jf hN hB' (P.gone n s dt) (P.putc n s dt) (by rw [hp];exact h.d) (by rw [hp];exact h.ch) (by rw [hp];exact hcore);obtain ⟨q1,q2,q3,q4⟩:=hsp;have hsame:P.SameC (P.hold n s dt):=by
  have e1:P.SameC (P.putc n s dt):=by rw [hp];rfl
  exact e1.trans (Pgr.Same.c q4)
 have hca:(P.hold n s dt).ca=l.drop k:=by show ((P.putc n s dt).spills _).ca=_;rw [q4,hp]
 have hpc:(P.putc n s dt).ca=l.drop k:=by rw [hp]
 refine ⟨hgl,q1,?_,hsame⟩;have hup:=h.up;have hdn:(P.hold n s dt).d.down=false:=q2.fine.up;refine ⟨⟨by rw [hsame];exact hup.over,by rw [hsame];exact hup.lost,hdn,?_⟩,by rw [hsame];exact hs1,by rw [hsame];exact hs2,q2,by rw [hsame];exact h.base,by rw [hsame];exact h.saves,by rw [hsame];exact h.ch,?_,by rw [hca];rw [hpc] at q3;exact q3,hB',hN⟩
 ·have h1:(P.hold n s dt).d.life=P.d.life:=(gA _ _).trans (by rw [hp]);have h2:(P.hold n s dt).life=P.life:=by rw [hsame]
  rw [h1,h2];exact hup.life
 ·rw [hca,List.length_drop];have:(P.hold n s dt).size=P.size:=by rw [hsame]
  rw [this];omega
theorem lh:∀ {L:List On},(L.map (·.1)).Nodup→∀ {x y:On},x ∈ L→y ∈ L→x.1=y.1→x=y
 | [],_,_,_,hx,_,_=>by cases hx
 | z :: L,hn,x,y,hx,hy,e=>by
   rw [List.map_cons,List.nodup_cons] at hn;rcases List.mem_cons.1 hx with rfl | hx' <;> rcases List.mem_cons.1 hy with rfl | hy'
   ·rfl
   ·exact (hn.1 (List.mem_map.2 ⟨y,hy',e.symm⟩)).elim
   ·exact (hn.1 (List.mem_map.2 ⟨x,hx',e⟩)).elim
   ·exact lh hn.2 hx' hy' e
theorem lu {P:Pgr} {B:Int→By} {N n:Nat} (h:Vw P B N) (h1:1≤n) (hn:n<N):CanFetch P n (B n)∧Vw (P.fetch n (B n)) B N∧P.SameC (P.fetch n (B n)):=by
 have hN:=h.N;cases hr:(dh (n:Int) P.ca).2
 ·have hno:∀ x ∈ P.ca,x.1≠(n:Int):=fun x hx e=>by
   unfold dh at hr;cases hf:P.ca.find? (fun x=>x.1 == (n:Int)) with
   | some y=>rw [hf] at hr;cases hr
   | none=> have:=List.find?_eq_none.1 hf x hx;simp [e] at this
  have hon:bm P.d n (B n):=by
   rcases h.core.all n h1 hn with ⟨x,hx,e⟩ | ⟨p,hp,-⟩ | ho
   ·exact (hno x hx e).elim
   ·cases hp
   ·exact ho
  have hh:=gQ (s:=B n) (dt:=false) h h1 hn (.inl rfl) hN (h.len _) (.inr hon);rw [pk] at hh;have e:P.fetch n (B n)=P.hold n (B n) false:=by unfold Pgr.fetch;rw [hr];rfl
  rw [e];exact ⟨⟨h.d.fine,by omega,h.len _,fun x=>(by rw [hr] at x;cases x),fun _=>⟨hon,hh.1,hh.2.1⟩⟩,hh.2.2.1,hh.2.2.2⟩
 ·have e:P.fetch n (B n)={ P with ca:=iZ (n:Int) P.ca }:=by unfold Pgr.fetch;rw [hr];rfl
  rw [e]
  obtain ⟨x,hf⟩:∃ x,P.ca.find? (fun x=>x.1 == (n:Int))=some x:=by
   unfold dh at hr;cases hf:P.ca.find? (fun x=>x.1 == (n:Int)) with
   | some y=>exact ⟨y,rfl⟩
   | none=>rw [hf] at hr;cases hr
  have hx:=List.mem_of_find?_eq_some hf;have hxn:x.1=(n:Int):=by have:=List.find?_some hf;simpa using this
  obtain ⟨m,e1,e2,e3,e4⟩:=h.core.rng x hx;have hm:m=n:=by omega
  subst hm;have hgr:(dh (m:Int) P.ca).1=ak (B m):=by unfold dh;rw [hf];exact e4
  have hgl:iZ (m:Int) P.ca=aD (m:Int) P.ca ++ [x]:=by unfold iZ;rw [hf]
  have hmem:∀ y,y ∈ aD (m:Int) P.ca ++ [x]↔y ∈ P.ca:=fun y=>by
   rw [List.mem_append,mem_without,List.mem_singleton];constructor
   ·rintro (⟨hy,-⟩ | rfl)
    ·exact hy
    ·exact hx
   ·intro hy;by_cases e:y.1=(m:Int)
    ·have:=lh h.core.kv hy hx (e.trans hxn.symm);exact .inr this
    ·exact .inl ⟨hy,e⟩
  have hlen:(aD (m:Int) P.ca ++ [x]).length≤P.ca.length:=by
   have h2:(aD (m:Int) P.ca).length<P.ca.length:=by unfold aD;refine List.length_filter_lt_length_iff_exists.2 ⟨x,hx,by simp [hxn]⟩
   rw [List.length_append];simp only [List.length_cons,List.length_nil];omega
  have hnd:((aD (m:Int) P.ca ++ [x]).map (·.1)).Nodup:=by obtain ⟨xa,xb⟩:=x;simp only at hxn;rw [hxn];exact mS h.core.kv xb
  rw [hgl];refine ⟨⟨h.d.fine,by omega,h.len _,fun _=>hgr,fun y=>(by rw [hr] at y;cases y)⟩,⟨⟨h.up.over,h.up.lost,h.up.down,h.up.life⟩,h.s1,h.s2,h.d,h.base,h.saves,h.ch,?_,⟨hnd,fun y hy=>h.core.rng y ((hmem y).1 hy),fun y hy=>h.core.cln y ((hmem y).1 hy),fun p hp=>(by cases hp),fun k k1 k2=>?_⟩,h.len,h.N⟩,rfl⟩
  ·have:=h.fit;show ((aD (m:Int) P.ca ++ [x]).length:Int)≤P.size;omega
  ·rcases h.core.all k k1 k2 with ⟨y,hy,e⟩ | h3 | h3
   ·exact .inl ⟨y,(hmem y).2 hy,e⟩
   ·exact .inr (.inl h3)
   ·exact .inr (.inr h3)
end Go.Proofs.YtdmhbgpejppbkaaGreat
