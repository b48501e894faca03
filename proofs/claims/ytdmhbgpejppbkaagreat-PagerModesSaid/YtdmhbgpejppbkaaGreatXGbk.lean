/- pager: toLog. pager: commit, whatever stands on the disk, with a log and without; Commit. -/
import Derived.Test.YtdmhbgpejppbkaaGreatXGbj
import Derived.Test.YtdmhbgpejppbkaaGreatXGax
import Derived.ArgAppend
set_option maxRecDepth 100000
set_option maxHeartbeats 4000000
namespace Go.Proofs.YtdmhbgpejppbkaaGreat
open Go.Lib (hid)
open Go.RowKit Go.Maps
def Pgr.adds (P:Pgr) (l:List Pg):Pgr:=l.foldl (fun Q x=>Q.add x.n.toNat (bs x.s) (x.n == 0)) P
theorem zj (P:Pgr) (l:List Pg) {k:Nat} (h:k<l.length):P.adds (l.take (k+1))=(P.adds (l.take k)).add (l[k]).n.toNat (bs (l[k]).s) ((l[k]).n == 0):=by unfold Pgr.adds;rw [List.take_succ_eq_append_getElem h,List.foldl_append];rfl
def Pgr.logd (P:Pgr) (ps:List Pg):Pgr:={ P.adds ps with d:=(P.adds ps).d.setF bf Fi.settle }
structure CanLog (P:Pgr) (ps:List Pg):Prop where
 adds:∀ (k:Nat) x,ps[k]?=some x→0≤x.n∧x.n<4096∧(bs x.s).length=232∧∃ fr,(P.adds (ps.take k)).lg=some fr∧CanAdd (P.adds (ps.take k)).d fr
 fine:(P.adds ps).d.Fine
 file:∃ f,(P.adds ps).d.file bf=some f
 lg:∃ fr,(P.adds ps).lg=some fr
 len:ps.length≤1000
theorem xE {w:World} {b off c:Nat} {h0:Pg} {r:List Pg} (hv:Sl Pg.cells 2 w (.slice (some ⟨b,off,none⟩) (r.length+1) c) (h0 :: r)) (hl:r.length≤1000):
  ∃ v' w',(dU #[135,135] 135 #[.slice (if r=[] then some ⟨b,off,none⟩ else some ⟨b,off+2,none⟩) r.length r.length,.slice (some ⟨w.heap.size,0,none⟩) 1 1]).run Tryz.prog (w.alloc (bj h0)).drew=.ok v' w'∧Own Pg.cells 2 134 w.heap.size w' v' (r ++ [h0])∧Below w.heap.size w w':=by
 have hA:Below w.heap.size w (w.alloc (bj h0)).drew:=((Below.refl w.heap.size w).alloc (Nat.le_refl _) _).drew;have hv2:=hv.keep hA;have hfl:=hv2.flatCells (ys:=h0 :: r) (by simp) Pg.len (by decide);have hx:(w.alloc (bj h0)).drew.heap[w.heap.size]?=some (bj h0):=af (w0:=w) rfl;obtain ⟨ht,⟨i,z,hi,hz,hs,hb,hzs⟩,hp,hpl,h1⟩:=Av;obtain ⟨a,ha,hat⟩:∃ a:Addr,(if r=[] then some (⟨b,off,none⟩:Addr) else some ⟨b,off+2,none⟩)=some a∧(r≠[]→a=⟨b,off+2,none⟩):=by
  by_cases e:r=[]
  ·exact ⟨_,if_pos e,fun h=>(h e).elim⟩
  ·exact ⟨_,if_neg e,fun _=>rfl⟩
 rw [ha]
 obtain ⟨v',w',g1,g2,g3⟩:=run_append_arg_grows (P:=Tryz.prog) (w.alloc (bj h0)).drew 135 135 134 i z 2 24 ht hi hz hs hb hzs (by decide) a r.length r.length (r.flatMap Pg.cells) (dw Pg.cells 2 Pg.len r) (fun j u hj=>by
   have:=hfl (j+2) u (by rw [List.flatMap_cons,List.getElem?_append_right (by rw [Pg.len];omega),Pg.len,Nat.add_sub_cancel];exact hj);have hne:r≠[]:=fun e=>by rw [e] at hj;cases hj
   rw [hat hne];rw [Addr.add_lit] at this ⊢;rw [show off+2+j=off+(j+2) by omega];exact this) ⟨w.heap.size,0,none⟩ 1 1 (Pg.cells h0) (by rw [Pg.len]) (fun j u hj=>by
   rw [Addr.add_lit];have h2:=aa hx j;rw [Nat.zero_add];refine h2.trans ?_;simpa using hj) (by omega) (by unfold maxLen;omega) (by omega)
 refine ⟨v',w',g1,?_,?_⟩
 ·have h3:Own Pg.cells 2 134 (w.alloc (bj h0)).drew.heap.size w' v' (r ++ [h0]):=by unfold Own;rw [List.length_append,List.length_singleton,List.flatMap_append];simpa using g2
  exact h3.base hA.size
 ·exact hA.trans ((Ch.of_grown (S:=fun _=>False) g3 (fun k hk=>by cases hk)).below hA.size fun _ h=>h.elim)
attribute [local go_sem ↓] fN
theorem rF (h0:Pg) (r:List Pg) (v:Value) (w:World) {base:Nat} {L:PgL} {P:Pgr} (h:PgIs w L P) (hc:CanLog P (r ++ [h0])) (hown:Own Pg.cells 2 134 base w v (h0 :: r)):
  Calls Tryz.prog 112 #[ai L.gp,v] w fun e w'=>e=.returned (.int .i64 0)∧PTo w L (P.logd (r ++ [h0])) w':=by
 have HH:=hid h;have HC:=hid hc;have hv:=hown.sl Pg.len;obtain ⟨b,off,c,rfl,hbl,hcells⟩:=hv.at1 (k:=0) (by simp);have hlr:r.length≤1000:=by have:=hc.len;rw [List.length_append] at this;omega
 have hcap:r.length+1≤c:=hown.cap;obtain ⟨v',w1,hr',ho,hb1⟩:=xE hv hlr;have x0:w.cell? ⟨b,off,none⟩=some (.int .i64 h0.n):=by simpa using hcells 0 _ rfl
 have x1:w.cell? ⟨b,off+1,none⟩=some (.string h0.s):=by simpa using hcells 1 _ rfl
 have HB1:=hid hb1;have HO1:=hid (ho.sl Pg.len);have HOw:=hid ho;have HP1:=hid (h.below hb1);have h0l:∀ k,L.F k→k<w.heap.size:=fun k hk=>h.lt hk
 obtain ⟨A',c',hv'⟩:=Sl.len' (ho.sl Pg.len);have hll:(h0 :: r).length=r.length+1:=rfl;rw [hll];generalize hps:r ++ [h0]=ps at HC HO1 HOw hv' ⊢;unfold bj Pg.cells at hr';unfold ai at *;clear h hc hv hb1 ho hcells hown hps;go_enter Tryz.func112,Tryz.ntmps112;go_upto_region 1 with fail
 by_cases hre:r=[]
 all_goals
  try subst hre
  first | (rw [if_pos rfl] at hr';simp only [List.length_nil,Nat.zero_add] at hr' ⊢) | rw [if_neg hre] at hr'
  go_region;subst hv';have HFl:=hid (fun k (hk:L.F k)=>h0l k hk);clear h0l hr' x0 x1 hbl hlr hcap;go_wp2_with fail;go_loopw [20] (fun iv wr=>∃ k:Nat,k≤ps.length∧iv=.int .i64 k∧PTo w1 L (P.adds (ps.take k)) wr) (fun iv _=>ps.length - (intOf iv).toNat)
  case atStart=>exact ⟨0,Nat.zero_le _,rfl,PTo.refl HP1.out⟩
  case round=>
   obtain ⟨k,hk,rfl,hto⟩:=hrel;obtain ⟨L4,g4,p4,f4,c4⟩:=hto;have HS4:=dV HO1.out c4 (fun k hk e=>by have:=(HOw.out.lt k hk).1;have:=HFl.out k e;omega);have HP4:=hid p4;have HG4:=hid (And.intro g4 (And.intro f4 c4));clear g4 p4 f4 c4;by_cases hlt:k<ps.length
   ·obtain ⟨b,off,c',he,hbl,hcells⟩:=HS4.at1 hlt;injection he with he1 he2 he3
    subst he1 he3;have hcs:=HC.out.adds k ps[k] (List.getElem?_eq_getElem hlt);have hup:=zj P ps hlt;have hk0:(0:Int)≤(k:Int):=by omega
    have hk1:(k:Int)<(ps.length:Int):=by omega
    have HK:=hid (And.intro hk hlt);have hl2:(k:Int)<1002:=by have:=HC.out.len;omega
    generalize ps[k]=x at *;obtain ⟨xn,xs⟩:=x;obtain ⟨hx0,hx1,hx2,fr,hx3,hx4⟩:=hcs;simp only at hx0 hx1 hx2 hup;obtain ⟨m,rfl⟩:∃ m:Nat,xn=m:=⟨xn.toNat,by omega⟩;obtain ⟨t,rfl⟩:∃ t,xs=aj t:=⟨bs xs,(eL xs).symm⟩;rw [aR] at hx2;rw [aR,Int.toNat_natCast] at hup;have e0:wr.cell? ⟨b,off+k * 2,none⟩=some (.int .i64 m):=hcells 0 _ rfl;have e1:wr.cell? ⟨b,off+k * 2+1,none⟩=some (.string (aj t)):=hcells 1 _ rfl;have HUP:=hid hup;have hA:Below wr.heap.size wr (wr.alloc (kS m t)):=(Below.refl _ wr).alloc (Nat.le_refl _) _;have HA:=hid hA;have HAD:=hid (pU m t ((m:Int) == 0) _ (HP4.out.below hA) hx3 hx4 (by omega) hx2);rw [HG4.out.1] at HAD;unfold ai kS at HAD;clear hcells hx3 hx4 hx2 hup HS4 hx0 hx1 hk hA;go_wp2_with fail;refine HAD.out.mono ?_;rintro e w5 ⟨rfl,hr⟩;have HR:=hid (show PTo w1 L (P.adds (ps.take (k+1))) w5 from by
     rw [HUP.out];exact PTo.and HG4.out.1 HG4.out.2.1 HG4.out.2.2 (PTo.pre hr HA.out))
    clear hr;go_wp2_with fail;go_roundw
    case rel=>exact ⟨k+1,by have:=HK.out;omega,by go_num,HR.out⟩
    case measure=>simp [intOf];omega
   ·obtain rfl:k=ps.length:=by omega
    rw [List.take_length] at HP4;obtain ⟨fm,hfm⟩:=HC.out.file;obtain ⟨fr,hfr⟩:=HC.out.lg;have hfine:=HC.out.fine;obtain ⟨M,hM,hli⟩:=HP4.out.haslg hfr;have HSY:=hid (ux wr HP4.out.dk hli (eU HP4.out hM) hfine hfm);have HM:=hid hM;have HFR:=hid hfr;have hC4:=ag HP4.out.blk;have c9:=hC4.c9;have hl4:=hC4.lt;rw [hM] at c9;rw [HG4.out.1] at c9 hl4;unfold bn ai at c9;unfold ai at HSY;clear hfm hfr hfine hM hli hC4 hlt hk HS4;go_wp2_with fail;refine HSY.out.mono ?_;rintro e w5 ⟨rfl,hr⟩;have hto:=HP4.out.setDL HM.out hr;have HF:=hid (show PTo w L (P.logd ps) w5 from by
     have e:P.logd ps={ P.adds ps with d:=(P.adds ps).d.setF bf Fi.settle,lg:=some fr }:=by unfold Pgr.logd;rw [← HFR.out]
     rw [e];exact PTo.pre (PTo.and HG4.out.1 HG4.out.2.1 HG4.out.2.2 hto) HB1.out)
    clear hr hto;go_wp2_with fail;go_ret;exact ⟨rfl,HF.out⟩
end Go.Proofs.YtdmhbgpejppbkaaGreat
namespace Go.Proofs.YtdmhbgpejppbkaaGreat
open Go.Lib (hid)
open Go.RowKit Go.Maps
structure CanCom2 (P Q:Pgr):Prop where
 good:P.bump.work.Good
 ch:P.work.change+1<18446744073709551616
 stM:P.lg=none→∀ (w:World) (L:PgL) (v:Value) (base:Nat),PgIs w L P.bump→Own Pg.cells 2 134 base w v P.bump.comL→(∀ k,v.ownBlock=some k→¬ L.F k∧k<w.heap.size)→Calls Tryz.prog 113 #[ai L.gp,v] w fun e w'=>e=.returned (.int .i64 0)∧PTo w L Q w'
 stL:P.lg≠none→∀ (w:World) (L:PgL) (v:Value) (base:Nat),PgIs w L P.bump→Own Pg.cells 2 134 base w v P.bump.comL→(∀ k,v.ownBlock=some k→¬ L.F k∧k<w.heap.size)→Calls Tryz.prog 112 #[ai L.gp,v] w fun e w'=>e=.returned (.int .i64 0)∧PTo w L Q w'
 lg:Q.lg.isSome=P.lg.isSome
 nums:∀ x ∈ aK Q.ca,gE x.n
 few:(aK P.ca).length≤1000
 few2:(aK Q.ca).length≤1000
 hp:Q.work.pages≤4096
 fine:Q.d.Fine
def Pgr.com1 (Q:Pgr):Pgr:=(Q.based.tidy (aK Q.ca)).ended
def Pgr.com (Q:Pgr):Pgr:=if Q.lg.isNone then { Q.com1 with d:=bz Q.com1.d Q.com1.head.pages } else Q.com1
attribute [local go_sem ↓] fN
theorem gt (w:World) {L:PgL} {P Q0:Pgr} (h:PgIs w L P) (hc:CanCom2 P Q0):
  Calls Tryz.prog 57 #[ai L.gp] w fun e w'=>e=.returned (.int .i64 0)∧PTo w L Q0.com w':=by
 have HH:=hid h;have HC:=hid hc;have hC:=ag h.blk;have hl:=hC.lt;have c20:=hC.c20;have z20:=hC.fz 20;have hwr:IntKind.u64.wrap ((P.work.change:Int)+1)=(P.work.change:Int)+1:=IntWalk.u64_in _ (by have:=hc.ch;omega);have hto:PTo w L P.bump (w.setCell ⟨L.gp,20,none⟩ (.int .u64 ((P.work.change:Int)+1))):=h.cell 20 (.int .u64 ((P.work.change:Int)+1)) (by
  have:=ae h.blk 20 (.int .u64 ((P.work.change:Int)+1));exact this) rfl rfl rfl rfl rfl ⟨h.ok.s1,h.ok.s2,h.ok.base,h.ok.hp,h.ok.wp,h.ok.nos⟩
 unfold ai at *;clear h hc hC;go_enter Tryz.func57,Tryz.ntmps57;go_upto_region 2 with fail
 generalize w.setCell ⟨L.gp,20,none⟩ (.int .u64 ((P.work.change:Int)+1))=w1 at *;obtain ⟨L1,g1,p1,f1,k1⟩:=hto;have HP1:=hid (And.intro p1 (And.intro g1 (And.intro f1 k1)));have hC:=ag p1.blk;have hl:=hC.lt;have c15:=hC.c15;have c16:=hC.c16;have c17:=hC.c17;have c18:=hC.c18;have c19:=hC.c19;have c20:=hC.c20;rw [g1] at hl c15 c16 c17 c18 c19 c20;have HEN:=hid (iU P.bump.work w1 HC.out.good);unfold fJ lN at HEN;obtain ⟨W,hW⟩:∃ W,P.bump.work=W:=⟨_,rfl⟩;have HWW:=hid hW;rw [hW] at HEN c15 c16 c17 c18 c19 c20;clear hC g1 p1 f1 k1 hW z20 hwr;go_wp2_with fail;refine HEN.out.mono ?_;rintro e w2 ⟨rfl,hb2⟩;have HB2:=hid hb2;have HP2:=hid (HP1.out.1.below hb2);clear hb2 c15 c16 c17 c18 c19 c20 hl;have hA3:Below w2.heap.size w2 (w2.alloc (bj ⟨0,aj (bh W)⟩)):=(Below.refl _ w2).alloc (Nat.le_refl _) _;have hO3:Own Pg.cells 2 134 w2.heap.size (w2.alloc (bj ⟨0,aj (bh W)⟩)) (.slice (some ⟨w2.heap.size,0,none⟩) 1 1) [(⟨0,aj (bh W)⟩:Pg)]:=by have h1:=World.ownsRow_lit (base:=w2.heap.size) (e:=134) w2 (Pg.cells ⟨0,aj (bh W)⟩).toArray 1 (size:=2) (Nat.le_refl _) (by unfold maxLen;omega) rfl;unfold Own bj;simpa [Pg.cells] using h1
 have HA3:=hid hA3;have HO3:=hid hO3;have HP3:=hid (HP2.out.below hA3);have hC:=ag HP3.out.blk;have e1:=hC.c1;have el:=hC.lt;rw [HP1.out.2.1] at e1 el;have HDT:=hid (gB _ HP3.out.ca HP3.out.ok.s2);obtain ⟨ac,hac⟩:=HP3.out.ca.ptr;rw [hac] at e1 HDT;have hbc:P.bump.ca=P.ca:=rfl;rw [hbc] at HDT;obtain ⟨ds,hds⟩:∃ ds,aK P.ca=ds:=⟨_,rfl⟩;have HDS:=hid hds;have hdl:ds.length≤1000:=by rw [← hds];exact HC.out.few
 clear hA3 hO3 hC hac hbc hds;go_upto_region 6 with fail
 have hw3:∃ w3,w2.alloc (bj ⟨0,aj (bh W)⟩)=w3:=⟨_,rfl⟩;obtain ⟨w3,hw3⟩:=hw3;change Code.wp _ _ _ _ (w2.alloc (bj ⟨0,aj (bh W)⟩));have hs3:w3.heap.size=w2.heap.size+1:=by rw [← hw3];simp
 rw [hw3] at HA3 HO3 HP3 HDT e1 el ⊢;have HS3:=hid hs3;clear hw3 hs3;go_wp2_with fail;refine HDT.out.mono ?_;rintro e w4 ⟨v1,rfl,hsl,hnw,hb4⟩;rw [HDS.out] at hsl;obtain ⟨A1,c1,rfl⟩:=Sl.len' hsl;have HV:=hid (And.intro hsl (And.intro hnw hb4));have HP4:=hid (HP3.out.below hb4);have HO4:=hid (HO3.out.below hb4);clear hsl hnw hb4 e1 el;go_wp2_with fail;go_loopw [40,5] (fun iv pv wr=>∃ j:Nat,j≤ds.length∧iv=.int .i64 j∧PgLp w2 w4 W ds j pv wr) (fun iv _ _=>ds.length - (intOf iv).toNat)
 case atStart=>exact ⟨0,Nat.zero_le _,rfl,⟨by simpa using HO4.out,Ch.refl _ _,fun k hk=>.inl (by injection hk with hk;exact hk.symm)⟩⟩
 case round=>
  obtain ⟨j,hj,rfl,hI⟩:=hrel;have HI:=hid hI;have hFl:∀ k,L1.F k→k<w2.heap.size:=fun k hk=>HP2.out.lt hk
  have hs3:=HS3.out;have hs4:=HV.out.2.2.size;have hPr:=HP4.out.ch hI.ch fun k hk e=>by have:=hFl k hk;omega
  have HPR:=hid hPr;by_cases hlt:j<ds.length
  ·obtain ⟨b,off,c',he,hbl,hcells⟩:=(dV HV.out.1 hI.ch fun k hk e=>by have:=HV.out.2.1 k hk;omega).at1 hlt;injection he with he1 he2 he3
   subst he1 he3;have hj0:(0:Int)≤(j:Int):=by omega
   have hj1:(j:Int)<(ds.length:Int):=by omega
   have HJ:=hid (And.intro hj hlt);have HT:=hid (show ds.take (j+1)=ds.take j ++ [ds[j]] from List.take_succ_eq_append_getElem hlt);generalize ds[j]=x at *;obtain ⟨xn,xs⟩:=x;have x0:wr.cell? ⟨b,off+j * 2,none⟩=some (.int .i64 xn):=hcells 0 _ rfl;have x1:wr.cell? ⟨b,off+j * 2+1,none⟩=some (.string xs):=hcells 1 _ rfl;have HX:=hid (show Below wr.heap.size wr (wr.alloc (bj ⟨xn,xs⟩))∧(wr.alloc (bj ⟨xn,xs⟩)).heap[wr.heap.size]?=some (bj ⟨xn,xs⟩) from ⟨(Below.refl _ wr).alloc (Nat.le_refl _) _,af rfl⟩);clear hcells hI hFl hs3 hs4 hPr hj he2;go_upto_region 9 with fail
   have hwx:∃ wx,wr.alloc (bj ⟨xn,xs⟩)=wx:=⟨_,rfl⟩;obtain ⟨wx,hwx⟩:=hwx;change Code.wp _ _ _ _ (wr.alloc (bj ⟨xn,xs⟩));rw [hwx] at HX ⊢;clear hwx x0 x1 hbl;have hC:=ag (HPR.out.below HX.out.1).blk;have c16:=hC.c16;have cl:=hC.lt;rw [HP1.out.2.1,HWW.out] at c16;rw [HP1.out.2.1] at cl;have n0:wx.cell? ⟨wr.heap.size,0,none⟩=some (.int .i64 xn):=aa HX.out.2 0;have n1:wx.cell? ⟨wr.heap.size,1,none⟩=some (.string xs):=aa HX.out.2 1;have nl:=ab HX.out.2;clear hC;by_cases hin:xn<(W.pages:Int)
   ·have HIN:=hid (show (ds.take (j+1)).filter (ez W.pages)=(ds.take j).filter (ez W.pages) ++ [⟨xn,xs⟩] by rw [HT.out,List.filter_append];congr 1;simp [ez,hin]);go_wp2_with fail;go_region;have hbA:Below wr.heap.size wr (wx.drew.alloc (bj ⟨xn,xs⟩)):=(HX.out.1.drew).alloc (by have:=HX.out.1.size;simpa using this) _;have hln:((⟨0,aj (bh W)⟩:Pg) :: (ds.take j).filter (ez W.pages)).length≤1001:=by have:=List.length_filter_le (ez W.pages) (ds.take j);rw [List.length_cons];rw [List.length_take] at this;omega
    obtain ⟨v',w6,hr,ho,hg,hat⟩:=aZ (P:=Tryz.prog) Av 135 (HI.out.own.below hbA)
     (Sl.one (w0:=wx.drew) (g:=wx.heap.size) (e:=134) (cs:=(Pg.cells ⟨xn,xs⟩).toArray) (⟨xn,xs⟩:Pg) (c:=1) rfl Pg.len (by simp)) (by unfold maxLen;simp only [List.length_cons,List.length_nil] at hln ⊢;omega) (by simp only [List.length_cons,List.length_nil] at hln ⊢;omega) (by have h1:=hbA.size;have h2:=HI.out.ch.size;have h3:=HV.out.2.2.size;have h4:=HS3.out;omega)
    have hr':(dU #[135,135] 135 #[u5,.slice (some ⟨wx.heap.size,0,none⟩) 1 1]).run Tryz.prog (wx.alloc (bj ⟨xn,xs⟩)).drew=.ok v' w6:=hr;have HN:=hid (show PgLp w2 w4 W ds (j+1) v' w6 from by
     have hc5:Ch (fun k=>k=w2.heap.size) w4 (wx.drew.alloc (bj ⟨xn,xs⟩)):=HI.out.ch.trans (Ch.of_below hbA);have hc6:Ch (fun k=>u5.ownBlock=some k) (wx.drew.alloc (bj ⟨xn,xs⟩)) w6:=Ch.of_grown hg fun k hk=>hk
     refine ⟨by rw [HIN.out];simpa using ho,hc5.then hc6 fun k hk=>HI.out.at_ k hk,fun k hk=>?_⟩;rcases hat with hat | hat
     ·exact HI.out.at_ k (hat ▸ hk)
     ·rw [hat] at hk;injection hk with hk
      right;have:=hc5.size;omega)
    unfold bj Pg.cells at hr';clear hr ho hg hat hbA hln;go_wp2_with fail;go_roundw
    case rel=>exact ⟨j+1,by have:=HJ.out;omega,by go_num,HN.out⟩
    case measure=>simp [intOf];omega
   ·have HIN:=hid (show (ds.take (j+1)).filter (ez W.pages)=(ds.take j).filter (ez W.pages) by rw [HT.out,List.filter_append];simp [ez,hin]);have hin2:(W.pages:Int)≤xn:=by omega
    go_wp2_with fail;go_region;have HN:=hid (show PgLp w2 w4 W ds (j+1) u5 wx.drew from ⟨by rw [HIN.out];exact (HI.out.own.below HX.out.1).drew,(HI.out.ch.trans (Ch.of_below HX.out.1)).drew,HI.out.at_⟩);go_wp2_with fail;go_roundw
    case rel=>exact ⟨j+1,by have:=HJ.out;omega,by go_num,HN.out⟩
    case measure=>simp [intOf];omega
  ·obtain rfl:j=ds.length:=by omega
   clear hlt hj hFl hs3 hs4 hPr hI;have HIN:=hid (show ((⟨0,aj (bh W)⟩:Pg) :: (ds.take ds.length).filter (ez W.pages))=P.bump.comL by rw [List.take_length];unfold Pgr.comL;rw [HWW.out,show P.bump.ca=P.ca from rfl,HDS.out]);have hown:=HI.out.own;rw [HIN.out] at hown;obtain ⟨A5,c5,he5,-⟩:=aD hown;have hC:=ag HPR.out.blk;have cl:=hC.lt;have c9:=hC.c9;rw [HP1.out.2.1] at cl c9
   have hap:∀ k,u5.ownBlock=some k→¬ L1.F k∧k<wr.heap.size:=fun k hk=>⟨fun e=>by
    have h1:=HP2.out.lt e;have h2:=HV.out.2.2.size;have h3:=HS3.out;rcases HI.out.at_ k hk with h | h <;> omega,(hown.lt k hk).2⟩
   cases hlg:P.lg with
   | none=>
     rw [HPR.out.nolg (show P.bump.lg=none from hlg)] at c9;unfold bn at c9;have HTM:=hid (HC.out.stM hlg wr L1 u5 _ HPR.out hown hap);rw [HP1.out.2.1] at HTM;unfold ai at HTM;rw [he5] at HTM ⊢;have HLN:=hid (show Q0.lg=none by have:=HC.out.lg;rw [hlg] at this;simpa using this);clear hown he5 hC hap hlg;go_wp2_with fail;refine HTM.out.mono ?_;rintro e w6 ⟨rfl,hto⟩;have HT6:=hid (show PTo w L (Q0) w6 from by
      refine PTo.and HP1.out.2.1 HP1.out.2.2.1 HP1.out.2.2.2 ?_;obtain ⟨L6,q1,q2,q3,q4⟩:=hto;have hFl:∀ k,L1.F k→k<w2.heap.size:=fun k hk=>HP2.out.lt hk
      have hsz:w1.heap.size≤w2.heap.size:=HB2.out.size;have h2w:Ch (fun k=>w1.heap.size≤k) w1 wr:=(((Ch.of_below HB2.out).trans (Ch.of_below HA3.out)).trans (Ch.of_below HV.out.2.2)).trans (HI.out.ch.mono fun k _ e=>by rw [e];exact hsz);refine ⟨L6,q1,q2,fun k hk=>(q3 k hk).imp id fun e=>Nat.le_trans h2w.size e,h2w.up.trans q4⟩)
     clear hto;obtain ⟨Q,hQ⟩:∃ Q,Q=Q0:=⟨_,rfl⟩;rw [← hQ] at HT6;have HQ:=hid hQ;obtain ⟨L6,q1,q2,q3,q4⟩:=HT6.out;have HP6:=hid (And.intro q2 (And.intro q1 (And.intro q3 q4)));have hC:=ag q2.blk;have d15:=hC.c15;have d16:=hC.c16;have d17:=hC.c17;have d18:=hC.c18;have d19:=hC.c19;have d20:=hC.c20;have d2:=hC.c2;have d3:=hC.c3;have d4:=hC.c4;have d5:=hC.c5;have d6:=hC.c6;have d7:=hC.c7;have d8:=hC.c8;have y2:=hC.fz 2;have y3:=hC.fz 3;have y4:=hC.fz 4;have y5:=hC.fz 5;have y6:=hC.fz 6;have y7:=hC.fz 7;have y8:=hC.fz 8;have dl:=hC.lt;have hhp:Q.work.pages≤4096:=by rw [hQ];exact HC.out.hp
     have hW:PgIs (((((((w6.setCell ⟨L6.gp,2,none⟩ (.int .i64 Q.work.mode)).setCell ⟨L6.gp,3,none⟩ (.int .i64 Q.work.pages)).setCell ⟨L6.gp,4,none⟩ (.int .i64 Q.work.trunk)).setCell ⟨L6.gp,5,none⟩ (.int .i64 Q.work.spare)).setCell ⟨L6.gp,6,none⟩ (.int .i64 Q.work.root)).setCell ⟨L6.gp,7,none⟩ (.int .u64 Q.work.change)).setCell ⟨L6.gp,8,none⟩ (.int .i64 Q.work.pages)) L6 Q.based∧Ch (fun k=>k=L6.gp) w6 (((((((w6.setCell ⟨L6.gp,2,none⟩ (.int .i64 Q.work.mode)).setCell ⟨L6.gp,3,none⟩ (.int .i64 Q.work.pages)).setCell ⟨L6.gp,4,none⟩ (.int .i64 Q.work.trunk)).setCell ⟨L6.gp,5,none⟩ (.int .i64 Q.work.spare)).setCell ⟨L6.gp,6,none⟩ (.int .i64 Q.work.root)).setCell ⟨L6.gp,7,none⟩ (.int .u64 Q.work.change)).setCell ⟨L6.gp,8,none⟩ (.int .i64 Q.work.pages)):=by have hc:=(((((((Ch.refl (fun k=>k=L6.gp) w6).setCell (p:=⟨L6.gp,2,none⟩) rfl (.int .i64 Q.work.mode)).setCell (p:=⟨L6.gp,3,none⟩) rfl (.int .i64 Q.work.pages)).setCell (p:=⟨L6.gp,4,none⟩) rfl (.int .i64 Q.work.trunk)).setCell (p:=⟨L6.gp,5,none⟩) rfl (.int .i64 Q.work.spare)).setCell (p:=⟨L6.gp,6,none⟩) rfl (.int .i64 Q.work.root)).setCell (p:=⟨L6.gp,7,none⟩) rfl (.int .u64 Q.work.change)).setCell (p:=⟨L6.gp,8,none⟩) rfl (.int .i64 Q.work.pages);exact ⟨q2.setBlk (P':=Q.based) hc (ae (mp q2.blk Q.work) 8 (.int .i64 Q.work.pages)) rfl rfl rfl rfl rfl ⟨q2.ok.s1,q2.ok.s2,hhp,hhp,q2.ok.wp,q2.ok.nos⟩,hc⟩
     rw [q1] at hW d15 d16 d17 d18 d19 d20 d2 d3 d4 d5 d6 d7 d8 y2 y3 y4 y5 y6 y7 y8 dl;have HWW7:=hid hW;clear hC q1 q2 q3 q4 hhp hQ hW cl c9;go_upto_region 17 with fail
     go_region;obtain ⟨w7,hw7⟩:∃ w7,w7=(((((((w6.setCell ⟨L.gp,2,none⟩ (.int .i64 Q.work.mode)).setCell ⟨L.gp,3,none⟩ (.int .i64 Q.work.pages)).setCell ⟨L.gp,4,none⟩ (.int .i64 Q.work.trunk)).setCell ⟨L.gp,5,none⟩ (.int .i64 Q.work.spare)).setCell ⟨L.gp,6,none⟩ (.int .i64 Q.work.root)).setCell ⟨L.gp,7,none⟩ (.int .u64 Q.work.change)).setCell ⟨L.gp,8,none⟩ (.int .i64 Q.work.pages)).drew:=⟨_,rfl⟩;have hp7:PgIs w7 L6 Q.based∧Ch (fun k=>k=L.gp) w6 w7:=by rw [hw7];exact ⟨HWW7.out.1.ch (S:=fun _=>False) (Ch.drew (Ch.refl _ _)) (fun _ _ h=>h),HWW7.out.2.drew⟩
     rw [← hw7];clear hw7 HWW7 d15 d16 d17 d18 d19 d20 d2 d3 d4 d5 d6 d7 d8 y2 y3 y4 y5 y6 y7 y8 dl;have HP7:=hid hp7;have hC:=ag hp7.1.blk;have e1:=hC.c1;have el:=hC.lt;rw [HP6.out.2.1] at e1 el;have HD2:=hid (gB w7 hp7.1.ca hp7.1.ok.s2);obtain ⟨a7,ha7⟩:=hp7.1.ca.ptr;have HA7:=hid ha7;rw [ha7] at e1 HD2;obtain ⟨es,hes⟩:∃ es,aK Q.based.ca=es:=⟨_,rfl⟩;have HES:=hid hes;have hel:es.length≤1000:=by rw [← hes,show Q.based.ca=Q.ca from rfl,HQ.out];exact HC.out.few2
     clear hC hp7 ha7 hes;go_wp2_with fail;refine HD2.out.mono ?_;rintro e w8 ⟨v2,rfl,hsl,hnw,hb8⟩;rw [HES.out] at hsl;obtain ⟨A2,c2,rfl⟩:=Sl.len' hsl;have HV2:=hid (And.intro hsl (And.intro hnw hb8));have HP8:=hid (HP7.out.1.below hb8);clear hsl hnw hb8 e1 el;go_wp2_with fail;obtain ⟨wo,hwo⟩:∃ wo:World,wo=wr:=⟨_,rfl⟩;subst hwo;go_loopw [93] (fun iv wr=>∃ j:Nat,j≤es.length∧iv=.int .i64 j∧PTo w8 L6 (Q.based.tidy (es.take j)) wr) (fun iv _=>es.length - (intOf iv).toNat)
     case atStart=>exact ⟨0,Nat.zero_le _,rfl,PTo.refl HP8.out⟩
     case round=>
      obtain ⟨j,hj,rfl,hto⟩:=hrel;obtain ⟨L9,r1,r2,r3,r4⟩:=hto;by_cases hlt:j<es.length
      ·obtain ⟨b,off,c',he,hbl,hcells⟩:=(dV (HV2.out.1) r4 fun k hk e=>by have:=HV2.out.2.1 k hk;have:=HP7.out.1.lt e;omega).at1 hlt;injection he with he1 he2 he3
       subst he1 he3;have hj0:(0:Int)≤(j:Int):=by omega
       have hj1:(j:Int)<(es.length:Int):=by omega
       have HJ:=hid (And.intro hj hlt);have HT:=hid (ol Q.based es hlt);have hwf:gE (es[j]).n:=HC.out.nums _ (by rw [← HQ.out,show Q.ca=Q.based.ca from rfl,HES.out];exact List.getElem_mem hlt);generalize es[j]=x at *;obtain ⟨xn,xs⟩:=x;have x0:wr.cell? ⟨b,off+j * 2,none⟩=some (.int .i64 xn):=hcells 0 _ rfl;have x1:wr.cell? ⟨b,off+j * 2+1,none⟩=some (.string xs):=hcells 1 _ rfl;have HX:=hid (show Below wr.heap.size wr (wr.alloc (bj ⟨xn,xs⟩))∧(wr.alloc (bj ⟨xn,xs⟩)).heap[wr.heap.size]?=some (bj ⟨xn,xs⟩) from ⟨(Below.refl _ wr).alloc (Nat.le_refl _) _,af rfl⟩);have HR:=hid (And.intro r1 (And.intro r2 (And.intro r3 r4)));have HWF:=hid hwf;have hth:=dy (es.take j) Q.based;have HTH:=hid (show (Q.based.tidy (es.take j)).head.pages=Q.work.pages by rw [hth.1];rfl);have HSS:=hid (show (Q.based.tidy (es.take j)).size=Q.size from hth.2.1);clear hcells hj he2 r1 r2 r3 r4 hwf hth;go_upto_region 21 with fail
       have hwx:∃ wx,wr.alloc (bj ⟨xn,xs⟩)=wx:=⟨_,rfl⟩;obtain ⟨wx,hwx⟩:=hwx;change Code.wp _ _ _ _ (wr.alloc (bj ⟨xn,xs⟩));rw [hwx] at HX ⊢;clear hwx x0 x1 hbl;have HP9:=hid (HR.out.2.1.below HX.out.1);have hC:=ag HP9.out.blk;have b1:=hC.c1;have b3:=hC.c3;have bl:=hC.lt;rw [HTH.out] at b3;obtain ⟨a9,ha9⟩:=HP9.out.ca.ptr;rw [ha9] at b1;rw [HR.out.1,HP6.out.2.1] at b1 b3 bl;have n0:wx.cell? ⟨wr.heap.size,0,none⟩=some (.int .i64 xn):=aa HX.out.2 0;have nl:=ab HX.out.2;have hfr:¬ L9.Fc wr.heap.size:=fun e=>by have:=HR.out.2.1.calt _ e;omega
       have hgpc:¬ L9.Fc L.gp:=fun e=>by have:=HR.out.2.1.apart.pc;rw [HR.out.1,HP6.out.2.1] at this;exact this e
       have HF:=hid (And.intro hfr (And.intro hgpc ha9));have HARM:=hid (show ∀ (wa w9:World) (ca:List On),Below wx.heap.size wx wa→wa.cell? ⟨L.gp,1,none⟩=some (.pointer (some a9))→wa.cell? ⟨wr.heap.size,0,none⟩=some (.int .i64 xn)→ca=(if ez Q.work.pages ⟨xn,xs⟩ then bx xn (Q.based.tidy (es.take j)).ca else without xn (Q.based.tidy (es.take j)).ca)→Ca w9 L9.Fc (.pointer (some a9)) (Q.based.tidy (es.take j)).size ca→Ch L9.Fc wa w9→
         Hid (PTo w8 L6 (Q.based.tidy (es.take (j+1))) w9)∧w9.cell? ⟨L.gp,1,none⟩=some (.pointer (some a9))∧w9.cell? ⟨wr.heap.size,0,none⟩=some (.int .i64 xn) from fun wa w9 ca hwa h1 h2 hca h3 h4=>by
        refine ⟨hid ?_,h4.cell h1 hgpc,h4.cell h2 hfr⟩;rw [HT.out];have e:(Q.based.tidy (es.take j)).tidy1 ⟨xn,xs⟩={ Q.based.tidy (es.take j) with ca:=ca }:=by unfold Pgr.tidy1;rw [HTH.out,hca]
        rw [e];rw [← ha9] at h3;refine PTo.and HR.out.1 HR.out.2.2.1 HR.out.2.2.2 (PTo.pre (PTo.pre ((HP9.out.below hwa).getCa h3 h4) hwa) HX.out.1))
       clear hC hfr hgpc;by_cases hin:xn<(Q.work.pages:Int)
       ·have HCL:=hid (fun (wa:World) (hwa:Below wx.heap.size wx wa)=>mn xn wa (HP9.out.below hwa).ca HWF.out);have HIF:=hid (show bx xn (Q.based.tidy (es.take j)).ca=(if ez Q.work.pages ⟨xn,xs⟩ then bx xn (Q.based.tidy (es.take j)).ca else without xn (Q.based.tidy (es.take j)).ca) by unfold ez;rw [if_pos (by simpa using hin)]);rw [ha9] at HCL;clear ha9;go_wp2_with fail;go_region;have f1:wx.drew.cell? ⟨L.gp,1,none⟩=some (.pointer (some a9)):=b1;have f0:wx.drew.cell? ⟨wr.heap.size,0,none⟩=some (.int .i64 xn):=n0;have fl:L.gp<wx.drew.heap.size:=bl;have fn:wr.heap.size<wx.drew.heap.size:=nl;have HF1:=hid (And.intro f1 f0);clear b1 b3 bl n0 nl;go_wp2_with fail
        go_region_held3 (fun w'=>w'.cell? ⟨L.gp,1,none⟩=some (.pointer (some a9))∧w'.cell? ⟨wr.heap.size,0,none⟩=some (.int .i64 xn)) (first | exact ⟨d1,d0⟩ | exact ⟨f1,f0⟩)
         (first
          | (go_at_call 114;(with_reducible refine (HCL.out _ ?ba).mono ?_);(case ba=>exact ((Below.refl wx.heap.size wx).drew).drew);rintro e w9 ⟨rfl,h1,h2⟩;obtain ⟨HR9,d1,d0⟩:=HARM.out _ w9 _ ((Below.refl wx.heap.size wx).drew.drew) HF1.out.1 HF1.out.2 HIF.out h1 h2;clear h1 h2))
        go_wp2_with fail;go_roundw
        case rel=>exact ⟨j+1,by have:=HJ.out;omega,by go_num,HR9.out⟩
        case measure=>simp [intOf];omega
       ·have hin2:(Q.work.pages:Int)≤xn:=by omega
        have HCL:=hid (fun (wa:World) (hwa:Below wx.heap.size wx wa)=>gV xn wa (HP9.out.below hwa).ca HWF.out);have HIF:=hid (show without xn (Q.based.tidy (es.take j)).ca=(if ez Q.work.pages ⟨xn,xs⟩ then bx xn (Q.based.tidy (es.take j)).ca else without xn (Q.based.tidy (es.take j)).ca) by unfold ez;rw [if_neg (by simpa using hin2)]);rw [ha9] at HCL;clear ha9;go_wp2_with fail;go_region;have f1:wx.drew.cell? ⟨L.gp,1,none⟩=some (.pointer (some a9)):=b1;have f0:wx.drew.cell? ⟨wr.heap.size,0,none⟩=some (.int .i64 xn):=n0;have fl:L.gp<wx.drew.heap.size:=bl;have fn:wr.heap.size<wx.drew.heap.size:=nl;have HF1:=hid (And.intro f1 f0);clear b1 b3 bl n0 nl;go_wp2_with fail
        go_region_held3 (fun w'=>w'.cell? ⟨L.gp,1,none⟩=some (.pointer (some a9))∧w'.cell? ⟨wr.heap.size,0,none⟩=some (.int .i64 xn)) (first | exact ⟨d1,d0⟩ | exact ⟨f1,f0⟩)
         (first
          | (go_at_call 115;(with_reducible refine (HCL.out _ ?ba).mono ?_);(case ba=>exact ((Below.refl wx.heap.size wx).drew).drew);rintro e w9 ⟨rfl,h1,h2⟩;obtain ⟨HR9,d1,d0⟩:=HARM.out _ w9 _ ((Below.refl wx.heap.size wx).drew.drew) HF1.out.1 HF1.out.2 HIF.out h1 h2;clear h1 h2))
        go_wp2_with fail;go_roundw
        case rel=>exact ⟨j+1,by have:=HJ.out;omega,by go_num,HR9.out⟩
        case measure=>simp [intOf];omega
      ·obtain rfl:j=es.length:=by omega
       rw [List.take_length] at r2;have hth:=dy es Q.based;have HEND:=hid (kr wr r2);rw [r1,HP6.out.2.1] at HEND;have HR:=hid (And.intro r1 (And.intro r2 (And.intro r3 r4)));unfold ai at HEND;clear r1 r2 r3 r4 hlt hj;go_wp2_with fail;refine HEND.out.mono ?_;rintro e w9 ⟨rfl,hr⟩;obtain ⟨L5,s1,s2,s3,s4⟩:=hr;have hC:=ag s2.blk;have b9:=hC.c9;have bl:=hC.lt;have hlg9:(Q.based.tidy es).ended.lg=Q0.lg:=by rw [← HQ.out];show (Q.based.tidy es).lg=_;rw [kq];rfl
       have hfn9:(Q.based.tidy es).ended.d.Fine:=by show (Q.based.tidy es).d.Fine;rw [hth.2.2];show Q.d.Fine;rw [HQ.out];exact HC.out.fine
       have HCM1:=hid (show PTo w L Q0.com1 w9 from by
        have e:Q0.com1=(Q.based.tidy es).ended:=by unfold Pgr.com1;rw [← HQ.out,← HES.out];rfl
        rw [e];refine PTo.and HP6.out.2.1 HP6.out.2.2.1 HP6.out.2.2.2 ?_;refine PTo.and rfl (fun _ hk=>.inl hk) (HP7.out.2.mono fun k _ e=>.inl (e.trans HP6.out.2.1.symm)) ?_;refine PTo.pre ?_ HV2.out.2.2;refine PTo.and HR.out.1 HR.out.2.2.1 HR.out.2.2.2 ?_;exact ⟨L5,s1,s2,s3,s4⟩)
       rw [s2.nolg (hlg9.trans HLN.out)] at b9;unfold bn at b9;rw [s1,HR.out.1,HP6.out.2.1] at b9 bl;have HTR:=hid (jt w9 s2 hfn9);rw [s1,HR.out.1,HP6.out.2.1] at HTR;unfold ai at HTR;have e9:Q0.com={ (Q.based.tidy es).ended with d:=bz (Q.based.tidy es).ended.d (Q.based.tidy es).ended.head.pages }:=by unfold Pgr.com;rw [HLN.out];unfold Pgr.com1;rw [← HQ.out,← HES.out];rfl
       have HFIN:=hid (show ∀ w10,PTo w9 L5 { (Q.based.tidy es).ended with d:=bz (Q.based.tidy es).ended.d (Q.based.tidy es).ended.head.pages } w10→PTo w L Q0.com w10 from fun w10 ht=>by
        rw [e9];refine PTo.and HP6.out.2.1 HP6.out.2.2.1 HP6.out.2.2.2 ?_;refine PTo.and rfl (fun _ hk=>.inl hk) (HP7.out.2.mono fun k _ e=>.inl (e.trans HP6.out.2.1.symm)) ?_;refine PTo.pre ?_ HV2.out.2.2;refine PTo.and HR.out.1 HR.out.2.2.1 HR.out.2.2.2 ?_;exact PTo.and s1 s3 s4 ht)
       clear s1 s2 s3 s4 hC hth hlg9 hfn9 e9;go_wp2_with fail;refine HTR.out.mono ?_;rintro e w10 ⟨rfl,ht⟩;have HFF:=hid (HFIN.out w10 ht);clear ht;go_wp2_with fail;go_ret;exact ⟨rfl,HFF.out⟩
   | some lx=>
     obtain ⟨M,hM,-⟩:=HPR.out.haslg (show P.bump.lg=some lx from hlg);rw [hM] at c9;unfold bn ai at c9;have HTM:=hid (HC.out.stL (by rw [hlg];simp) wr L1 u5 _ HPR.out hown hap);rw [HP1.out.2.1] at HTM;unfold ai at HTM;rw [he5] at HTM ⊢;have HLN:=hid (show ∃ ly,Q0.lg=some ly by have:=HC.out.lg;rw [hlg] at this;exact Option.isSome_iff_exists.1 this);clear hown he5 hC hap hlg hM;go_wp2_with fail;refine HTM.out.mono ?_;rintro e w6 ⟨rfl,hto⟩;have HT6:=hid (show PTo w L (Q0) w6 from by
      refine PTo.and HP1.out.2.1 HP1.out.2.2.1 HP1.out.2.2.2 ?_;obtain ⟨L6,q1,q2,q3,q4⟩:=hto;have hFl:∀ k,L1.F k→k<w2.heap.size:=fun k hk=>HP2.out.lt hk
      have hsz:w1.heap.size≤w2.heap.size:=HB2.out.size;have h2w:Ch (fun k=>w1.heap.size≤k) w1 wr:=(((Ch.of_below HB2.out).trans (Ch.of_below HA3.out)).trans (Ch.of_below HV.out.2.2)).trans (HI.out.ch.mono fun k _ e=>by rw [e];exact hsz);refine ⟨L6,q1,q2,fun k hk=>(q3 k hk).imp id fun e=>Nat.le_trans h2w.size e,h2w.up.trans q4⟩)
     clear hto;obtain ⟨Q,hQ⟩:∃ Q,Q=Q0:=⟨_,rfl⟩;rw [← hQ] at HT6;have HQ:=hid hQ;obtain ⟨L6,q1,q2,q3,q4⟩:=HT6.out;have HP6:=hid (And.intro q2 (And.intro q1 (And.intro q3 q4)));have hC:=ag q2.blk;have d15:=hC.c15;have d16:=hC.c16;have d17:=hC.c17;have d18:=hC.c18;have d19:=hC.c19;have d20:=hC.c20;have d2:=hC.c2;have d3:=hC.c3;have d4:=hC.c4;have d5:=hC.c5;have d6:=hC.c6;have d7:=hC.c7;have d8:=hC.c8;have y2:=hC.fz 2;have y3:=hC.fz 3;have y4:=hC.fz 4;have y5:=hC.fz 5;have y6:=hC.fz 6;have y7:=hC.fz 7;have y8:=hC.fz 8;have dl:=hC.lt;have hhp:Q.work.pages≤4096:=by rw [hQ];exact HC.out.hp
     have hW:PgIs (((((((w6.setCell ⟨L6.gp,2,none⟩ (.int .i64 Q.work.mode)).setCell ⟨L6.gp,3,none⟩ (.int .i64 Q.work.pages)).setCell ⟨L6.gp,4,none⟩ (.int .i64 Q.work.trunk)).setCell ⟨L6.gp,5,none⟩ (.int .i64 Q.work.spare)).setCell ⟨L6.gp,6,none⟩ (.int .i64 Q.work.root)).setCell ⟨L6.gp,7,none⟩ (.int .u64 Q.work.change)).setCell ⟨L6.gp,8,none⟩ (.int .i64 Q.work.pages)) L6 Q.based∧Ch (fun k=>k=L6.gp) w6 (((((((w6.setCell ⟨L6.gp,2,none⟩ (.int .i64 Q.work.mode)).setCell ⟨L6.gp,3,none⟩ (.int .i64 Q.work.pages)).setCell ⟨L6.gp,4,none⟩ (.int .i64 Q.work.trunk)).setCell ⟨L6.gp,5,none⟩ (.int .i64 Q.work.spare)).setCell ⟨L6.gp,6,none⟩ (.int .i64 Q.work.root)).setCell ⟨L6.gp,7,none⟩ (.int .u64 Q.work.change)).setCell ⟨L6.gp,8,none⟩ (.int .i64 Q.work.pages)):=by have hc:=(((((((Ch.refl (fun k=>k=L6.gp) w6).setCell (p:=⟨L6.gp,2,none⟩) rfl (.int .i64 Q.work.mode)).setCell (p:=⟨L6.gp,3,none⟩) rfl (.int .i64 Q.work.pages)).setCell (p:=⟨L6.gp,4,none⟩) rfl (.int .i64 Q.work.trunk)).setCell (p:=⟨L6.gp,5,none⟩) rfl (.int .i64 Q.work.spare)).setCell (p:=⟨L6.gp,6,none⟩) rfl (.int .i64 Q.work.root)).setCell (p:=⟨L6.gp,7,none⟩) rfl (.int .u64 Q.work.change)).setCell (p:=⟨L6.gp,8,none⟩) rfl (.int .i64 Q.work.pages);exact ⟨q2.setBlk (P':=Q.based) hc (ae (mp q2.blk Q.work) 8 (.int .i64 Q.work.pages)) rfl rfl rfl rfl rfl ⟨q2.ok.s1,q2.ok.s2,hhp,hhp,q2.ok.wp,q2.ok.nos⟩,hc⟩
     rw [q1] at hW d15 d16 d17 d18 d19 d20 d2 d3 d4 d5 d6 d7 d8 y2 y3 y4 y5 y6 y7 y8 dl;have HWW7:=hid hW;clear hC q1 q2 q3 q4 hhp hQ hW cl c9;go_upto_region 17 with fail
     go_region;obtain ⟨w7,hw7⟩:∃ w7,w7=(((((((w6.setCell ⟨L.gp,2,none⟩ (.int .i64 Q.work.mode)).setCell ⟨L.gp,3,none⟩ (.int .i64 Q.work.pages)).setCell ⟨L.gp,4,none⟩ (.int .i64 Q.work.trunk)).setCell ⟨L.gp,5,none⟩ (.int .i64 Q.work.spare)).setCell ⟨L.gp,6,none⟩ (.int .i64 Q.work.root)).setCell ⟨L.gp,7,none⟩ (.int .u64 Q.work.change)).setCell ⟨L.gp,8,none⟩ (.int .i64 Q.work.pages)).drew:=⟨_,rfl⟩;have hp7:PgIs w7 L6 Q.based∧Ch (fun k=>k=L.gp) w6 w7:=by rw [hw7];exact ⟨HWW7.out.1.ch (S:=fun _=>False) (Ch.drew (Ch.refl _ _)) (fun _ _ h=>h),HWW7.out.2.drew⟩
     rw [← hw7];clear hw7 HWW7 d15 d16 d17 d18 d19 d20 d2 d3 d4 d5 d6 d7 d8 y2 y3 y4 y5 y6 y7 y8 dl;have HP7:=hid hp7;have hC:=ag hp7.1.blk;have e1:=hC.c1;have el:=hC.lt;rw [HP6.out.2.1] at e1 el;have HD2:=hid (gB w7 hp7.1.ca hp7.1.ok.s2);obtain ⟨a7,ha7⟩:=hp7.1.ca.ptr;have HA7:=hid ha7;rw [ha7] at e1 HD2;obtain ⟨es,hes⟩:∃ es,aK Q.based.ca=es:=⟨_,rfl⟩;have HES:=hid hes;have hel:es.length≤1000:=by rw [← hes,show Q.based.ca=Q.ca from rfl,HQ.out];exact HC.out.few2
     clear hC hp7 ha7 hes;go_wp2_with fail;refine HD2.out.mono ?_;rintro e w8 ⟨v2,rfl,hsl,hnw,hb8⟩;rw [HES.out] at hsl;obtain ⟨A2,c2,rfl⟩:=Sl.len' hsl;have HV2:=hid (And.intro hsl (And.intro hnw hb8));have HP8:=hid (HP7.out.1.below hb8);clear hsl hnw hb8 e1 el;go_wp2_with fail;obtain ⟨wo,hwo⟩:∃ wo:World,wo=wr:=⟨_,rfl⟩;subst hwo;go_loopw [93] (fun iv wr=>∃ j:Nat,j≤es.length∧iv=.int .i64 j∧PTo w8 L6 (Q.based.tidy (es.take j)) wr) (fun iv _=>es.length - (intOf iv).toNat)
     case atStart=>exact ⟨0,Nat.zero_le _,rfl,PTo.refl HP8.out⟩
     case round=>
      obtain ⟨j,hj,rfl,hto⟩:=hrel;obtain ⟨L9,r1,r2,r3,r4⟩:=hto;by_cases hlt:j<es.length
      ·obtain ⟨b,off,c',he,hbl,hcells⟩:=(dV (HV2.out.1) r4 fun k hk e=>by have:=HV2.out.2.1 k hk;have:=HP7.out.1.lt e;omega).at1 hlt;injection he with he1 he2 he3
       subst he1 he3;have hj0:(0:Int)≤(j:Int):=by omega
       have hj1:(j:Int)<(es.length:Int):=by omega
       have HJ:=hid (And.intro hj hlt);have HT:=hid (ol Q.based es hlt);have hwf:gE (es[j]).n:=HC.out.nums _ (by rw [← HQ.out,show Q.ca=Q.based.ca from rfl,HES.out];exact List.getElem_mem hlt);generalize es[j]=x at *;obtain ⟨xn,xs⟩:=x;have x0:wr.cell? ⟨b,off+j * 2,none⟩=some (.int .i64 xn):=hcells 0 _ rfl;have x1:wr.cell? ⟨b,off+j * 2+1,none⟩=some (.string xs):=hcells 1 _ rfl;have HX:=hid (show Below wr.heap.size wr (wr.alloc (bj ⟨xn,xs⟩))∧(wr.alloc (bj ⟨xn,xs⟩)).heap[wr.heap.size]?=some (bj ⟨xn,xs⟩) from ⟨(Below.refl _ wr).alloc (Nat.le_refl _) _,af rfl⟩);have HR:=hid (And.intro r1 (And.intro r2 (And.intro r3 r4)));have HWF:=hid hwf;have hth:=dy (es.take j) Q.based;have HTH:=hid (show (Q.based.tidy (es.take j)).head.pages=Q.work.pages by rw [hth.1];rfl);have HSS:=hid (show (Q.based.tidy (es.take j)).size=Q.size from hth.2.1);clear hcells hj he2 r1 r2 r3 r4 hwf hth;go_upto_region 21 with fail
       have hwx:∃ wx,wr.alloc (bj ⟨xn,xs⟩)=wx:=⟨_,rfl⟩;obtain ⟨wx,hwx⟩:=hwx;change Code.wp _ _ _ _ (wr.alloc (bj ⟨xn,xs⟩));rw [hwx] at HX ⊢;clear hwx x0 x1 hbl;have HP9:=hid (HR.out.2.1.below HX.out.1);have hC:=ag HP9.out.blk;have b1:=hC.c1;have b3:=hC.c3;have bl:=hC.lt;rw [HTH.out] at b3;obtain ⟨a9,ha9⟩:=HP9.out.ca.ptr;rw [ha9] at b1;rw [HR.out.1,HP6.out.2.1] at b1 b3 bl;have n0:wx.cell? ⟨wr.heap.size,0,none⟩=some (.int .i64 xn):=aa HX.out.2 0;have nl:=ab HX.out.2;have hfr:¬ L9.Fc wr.heap.size:=fun e=>by have:=HR.out.2.1.calt _ e;omega
       have hgpc:¬ L9.Fc L.gp:=fun e=>by have:=HR.out.2.1.apart.pc;rw [HR.out.1,HP6.out.2.1] at this;exact this e
       have HF:=hid (And.intro hfr (And.intro hgpc ha9));have HARM:=hid (show ∀ (wa w9:World) (ca:List On),Below wx.heap.size wx wa→wa.cell? ⟨L.gp,1,none⟩=some (.pointer (some a9))→wa.cell? ⟨wr.heap.size,0,none⟩=some (.int .i64 xn)→ca=(if ez Q.work.pages ⟨xn,xs⟩ then bx xn (Q.based.tidy (es.take j)).ca else without xn (Q.based.tidy (es.take j)).ca)→Ca w9 L9.Fc (.pointer (some a9)) (Q.based.tidy (es.take j)).size ca→Ch L9.Fc wa w9→
         Hid (PTo w8 L6 (Q.based.tidy (es.take (j+1))) w9)∧w9.cell? ⟨L.gp,1,none⟩=some (.pointer (some a9))∧w9.cell? ⟨wr.heap.size,0,none⟩=some (.int .i64 xn) from fun wa w9 ca hwa h1 h2 hca h3 h4=>by
        refine ⟨hid ?_,h4.cell h1 hgpc,h4.cell h2 hfr⟩;rw [HT.out];have e:(Q.based.tidy (es.take j)).tidy1 ⟨xn,xs⟩={ Q.based.tidy (es.take j) with ca:=ca }:=by unfold Pgr.tidy1;rw [HTH.out,hca]
        rw [e];rw [← ha9] at h3;refine PTo.and HR.out.1 HR.out.2.2.1 HR.out.2.2.2 (PTo.pre (PTo.pre ((HP9.out.below hwa).getCa h3 h4) hwa) HX.out.1))
       clear hC hfr hgpc;by_cases hin:xn<(Q.work.pages:Int)
       ·have HCL:=hid (fun (wa:World) (hwa:Below wx.heap.size wx wa)=>mn xn wa (HP9.out.below hwa).ca HWF.out);have HIF:=hid (show bx xn (Q.based.tidy (es.take j)).ca=(if ez Q.work.pages ⟨xn,xs⟩ then bx xn (Q.based.tidy (es.take j)).ca else without xn (Q.based.tidy (es.take j)).ca) by unfold ez;rw [if_pos (by simpa using hin)]);rw [ha9] at HCL;clear ha9;go_wp2_with fail;go_region;have f1:wx.drew.cell? ⟨L.gp,1,none⟩=some (.pointer (some a9)):=b1;have f0:wx.drew.cell? ⟨wr.heap.size,0,none⟩=some (.int .i64 xn):=n0;have fl:L.gp<wx.drew.heap.size:=bl;have fn:wr.heap.size<wx.drew.heap.size:=nl;have HF1:=hid (And.intro f1 f0);clear b1 b3 bl n0 nl;go_wp2_with fail
        go_region_held3 (fun w'=>w'.cell? ⟨L.gp,1,none⟩=some (.pointer (some a9))∧w'.cell? ⟨wr.heap.size,0,none⟩=some (.int .i64 xn)) (first | exact ⟨d1,d0⟩ | exact ⟨f1,f0⟩)
         (first
          | (go_at_call 114;(with_reducible refine (HCL.out _ ?ba).mono ?_);(case ba=>exact ((Below.refl wx.heap.size wx).drew).drew);rintro e w9 ⟨rfl,h1,h2⟩;obtain ⟨HR9,d1,d0⟩:=HARM.out _ w9 _ ((Below.refl wx.heap.size wx).drew.drew) HF1.out.1 HF1.out.2 HIF.out h1 h2;clear h1 h2))
        go_wp2_with fail;go_roundw
        case rel=>exact ⟨j+1,by have:=HJ.out;omega,by go_num,HR9.out⟩
        case measure=>simp [intOf];omega
       ·have hin2:(Q.work.pages:Int)≤xn:=by omega
        have HCL:=hid (fun (wa:World) (hwa:Below wx.heap.size wx wa)=>gV xn wa (HP9.out.below hwa).ca HWF.out);have HIF:=hid (show without xn (Q.based.tidy (es.take j)).ca=(if ez Q.work.pages ⟨xn,xs⟩ then bx xn (Q.based.tidy (es.take j)).ca else without xn (Q.based.tidy (es.take j)).ca) by unfold ez;rw [if_neg (by simpa using hin2)]);rw [ha9] at HCL;clear ha9;go_wp2_with fail;go_region;have f1:wx.drew.cell? ⟨L.gp,1,none⟩=some (.pointer (some a9)):=b1;have f0:wx.drew.cell? ⟨wr.heap.size,0,none⟩=some (.int .i64 xn):=n0;have fl:L.gp<wx.drew.heap.size:=bl;have fn:wr.heap.size<wx.drew.heap.size:=nl;have HF1:=hid (And.intro f1 f0);clear b1 b3 bl n0 nl;go_wp2_with fail
        go_region_held3 (fun w'=>w'.cell? ⟨L.gp,1,none⟩=some (.pointer (some a9))∧w'.cell? ⟨wr.heap.size,0,none⟩=some (.int .i64 xn)) (first | exact ⟨d1,d0⟩ | exact ⟨f1,f0⟩)
         (first
          | (go_at_call 115;(with_reducible refine (HCL.out _ ?ba).mono ?_);(case ba=>exact ((Below.refl wx.heap.size wx).drew).drew);rintro e w9 ⟨rfl,h1,h2⟩;obtain ⟨HR9,d1,d0⟩:=HARM.out _ w9 _ ((Below.refl wx.heap.size wx).drew.drew) HF1.out.1 HF1.out.2 HIF.out h1 h2;clear h1 h2))
        go_wp2_with fail;go_roundw
        case rel=>exact ⟨j+1,by have:=HJ.out;omega,by go_num,HR9.out⟩
        case measure=>simp [intOf];omega
      ·obtain rfl:j=es.length:=by omega
       rw [List.take_length] at r2;have hth:=dy es Q.based;have HEND:=hid (kr wr r2);rw [r1,HP6.out.2.1] at HEND;have HR:=hid (And.intro r1 (And.intro r2 (And.intro r3 r4)));unfold ai at HEND;clear r1 r2 r3 r4 hlt hj;go_wp2_with fail;refine HEND.out.mono ?_;rintro e w9 ⟨rfl,hr⟩;obtain ⟨L5,s1,s2,s3,s4⟩:=hr;have hC:=ag s2.blk;have b9:=hC.c9;have bl:=hC.lt;have hlg9:(Q.based.tidy es).ended.lg=Q0.lg:=by rw [← HQ.out];show (Q.based.tidy es).lg=_;rw [kq];rfl
       have hfn9:(Q.based.tidy es).ended.d.Fine:=by show (Q.based.tidy es).d.Fine;rw [hth.2.2];show Q.d.Fine;rw [HQ.out];exact HC.out.fine
       have HCM1:=hid (show PTo w L Q0.com1 w9 from by
        have e:Q0.com1=(Q.based.tidy es).ended:=by unfold Pgr.com1;rw [← HQ.out,← HES.out];rfl
        rw [e];refine PTo.and HP6.out.2.1 HP6.out.2.2.1 HP6.out.2.2.2 ?_;refine PTo.and rfl (fun _ hk=>.inl hk) (HP7.out.2.mono fun k _ e=>.inl (e.trans HP6.out.2.1.symm)) ?_;refine PTo.pre ?_ HV2.out.2.2;refine PTo.and HR.out.1 HR.out.2.2.1 HR.out.2.2.2 ?_;exact ⟨L5,s1,s2,s3,s4⟩)
       obtain ⟨ly,hly⟩:=HLN.out;obtain ⟨M2,hM2,-⟩:=s2.haslg (hlg9.trans hly);rw [hM2] at b9;unfold bn ai at b9;rw [s1,HR.out.1,HP6.out.2.1] at b9 bl;have HFF:=hid (show PTo w L Q0.com w9 from by
        have e:Q0.com=Q0.com1:=by unfold Pgr.com;rw [hly];rfl
        rw [e];exact HCM1.out)
       clear s1 s2 s3 s4 hC hth hlg9 hfn9 hly hM2;go_wp2_with fail;go_ret;exact ⟨rfl,HFF.out⟩
end Go.Proofs.YtdmhbgpejppbkaaGreat
