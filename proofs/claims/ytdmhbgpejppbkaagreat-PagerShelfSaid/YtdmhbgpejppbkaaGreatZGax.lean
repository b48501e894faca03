/- pager: end, now, noted, blank, write, lay, main. pager: what a call leaves (PTo); noted, write, lay, spill. pager: lay. pager: spill. pager: hold. pager: main, read, fetch. -/
import Derived.Test.YtdmhbgpejppbkaaGreatZGaw
set_option maxRecDepth 100000
set_option maxHeartbeats 2000000
namespace Go.Proofs.YtdmhbgpejppbkaaGreat
open Go.Lib (hid)
open Go.RowKit Go.Maps
section
variable {w w':World} {L:PgL} {P P':Pgr}
theorem PgIs.bare (h:PgIs w L P) (hc:Ch (fun k=>k=L.gp) w w') (hb:w'.heap[L.gp]?=some (co { L with N:=none,vs:=.slice none 0 0,gs:=[] } P')) (h1:P'.d=P.d) (h2:P'.size=P.size) (h3:P'.ca=P.ca) (h4:P'.notes=none) (h5:P'.saves=[]) (hok:P'.Ok) (hgd:P'.gd=P.gd:=by rfl):PgIs w' { L with N:=none,vs:=.slice none 0 0,gs:=[] } P':=by refine ⟨?_,hok,h.gd.trans hgd.symm⟩;have a1:=h.sep.as (l1:=[Ob.blk L.gp (co L P),gJ L.D P.d,gK L.Fc L.vc P.size P.ca]) (a:=iw L.D.gd L.N P.notes) (b:=iw L.D.gd none none) (.inl ⟨rfl,rfl⟩) (fun k hk=>hk.elim);have a2:=a1.as (l1:=[Ob.blk L.gp (co L P),gJ L.D P.d,gK L.Fc L.vc P.size P.ca,iw L.D.gd none none]) (a:=iu L.vs L.gs P.saves) (b:=iu (.slice none 0 0) [] []) (SvIs.nil w) (fun k hk=>by rcases hk with hk | hk;cases hk;cases hk);have a3:=a2.upd (l1:=[]) (b:=Ob.blk L.gp (co { L with N:=none,vs:=.slice none 0 0,gs:=[] } P')) hc (fun k hk=>hk) hb (fun k hk=>.inl hk);unfold PgL.obs;rw [h1,h2,h3,h4,h5];exact a3
end
def Pgr.ended (P:Pgr):Pgr:={ P with busy:=false,wrote:=false,saves:=[],notes:=none,marred:=false,spoilt:=false }
def PgL.bare (L:PgL):PgL:={ L with N:=none,vs:=.slice none 0 0,gs:=[] }
theorem fo (w:World) {L:PgL} {P:Pgr} (h:PgIs w L P):
  Calls Tryz.prog 91 #[au L.gp] w fun e w'=>e=.returned (.tuple #[])∧PgIs w' L.bare P.ended∧Ch (fun k=>k=L.gp) w w':=by
 have HH:=hid h;have hl:=(ai h.blk).lt;have hfz:=(ai h.blk).fz;have c13:=(ai h.blk).c13;have c14:=(ai h.blk).c14;have c21:=(ai h.blk).c21;have c23:=(ai h.blk).c23;have c24:=(ai h.blk).c24;have c25:=(ai h.blk).c25;have z13:=hfz 13;have z14:=hfz 14;have z21:=hfz 21;have z23:=hfz 23;have z24:=hfz 24;have z25:=hfz 25;clear h hfz;unfold au;go_enter Tryz.func91,Tryz.ntmps91;go_wp2_with fail
 have hc:Ch (fun k=>k=L.gp) w ((((((w.setCell ⟨L.gp,13,none⟩ (.bool false)).setCell ⟨L.gp,14,none⟩ (.bool false)).setCell ⟨L.gp,21,none⟩ (.slice none 0 0)).setCell ⟨L.gp,24,none⟩ (.pointer none)).setCell ⟨L.gp,25,none⟩ (.bool false)).setCell ⟨L.gp,23,none⟩ (.bool false)):=
  ((((((Ch.refl (fun k=>k=L.gp) w).setCell (p:=⟨L.gp,13,none⟩) rfl _).setCell (p:=⟨L.gp,14,none⟩) rfl _).setCell (p:=⟨L.gp,21,none⟩) rfl _).setCell (p:=⟨L.gp,24,none⟩) rfl _).setCell (p:=⟨L.gp,25,none⟩) rfl _).setCell (p:=⟨L.gp,23,none⟩) rfl _
 refine bodyPost_end (results_none rfl _ _ _) rfl ⟨rfl,HH.out.bare hc ?_ rfl rfl rfl rfl rfl ⟨HH.out.ok.s1,HH.out.ok.s2,HH.out.ok.base,HH.out.ok.hp,HH.out.ok.wp,Nat.zero_le _⟩,hc⟩;exact ae (ae (ae (ae (ae (ae HH.out.blk 13 (.bool false)) 14 (.bool false)) 21 (.slice none 0 0)) 24 (.pointer none)) 25 (.bool false)) 23 (.bool false)
theorem fk (w:World) {L:PgL} {P:Pgr} (h:PgIs w L P):
  Calls Tryz.prog 52 #[au L.gp] w fun e w'=>e=.returned (eH (if P.busy then P.work else P.head))∧Below w.heap.size w w':=by
 have hC:=ai h.blk;have hl:=hC.lt;have c13:=hC.c13;cases hb:P.busy
 ·rw [hb] at c13;have c2:=hC.c2;have c3:=hC.c3;have c4:=hC.c4;have c5:=hC.c5;have c6:=hC.c6;have c7:=hC.c7;clear hC h hb;generalize P.head=H at *;unfold au;go_enter Tryz.func52,Tryz.ntmps52;go_wp2_with fail;have hg:(w.alloc (cX H)).heap[w.heap.size]?=some (cX H):=ah rfl;obtain ⟨q0,q1,q2,q3,q4,q5,q6⟩:=ct hg;have HB:=hid ((Below.refl w.heap.size w).alloc (Nat.le_refl _) (cX H));clear hg;change bodyPost _ _ _ _ _ (w.alloc (cX H));generalize w.alloc (cX H)=w1 at *;exact bodyPost_ret (v:=eH H) (by simp [results,Tryz.results52,eH,ko,go_sem,q0,q1,q2,q3,q4,q5]) rfl ⟨rfl,HB.out⟩
 ·rw [hb] at c13;have c15:=hC.c15;have c16:=hC.c16;have c17:=hC.c17;have c18:=hC.c18;have c19:=hC.c19;have c20:=hC.c20;clear hC h hb;generalize P.work=H at *;unfold au;go_enter Tryz.func52,Tryz.ntmps52;go_wp2_with fail;have hg:(w.alloc (cX H)).heap[w.heap.size]?=some (cX H):=ah rfl;obtain ⟨q0,q1,q2,q3,q4,q5,q6⟩:=ct hg;have HB:=hid ((Below.refl w.heap.size w).alloc (Nat.le_refl _) (cX H));clear hg;change bodyPost _ _ _ _ _ (w.alloc (cX H));generalize w.alloc (cX H)=w1 at *;exact bodyPost_ret (v:=eH H) (by simp [results,Tryz.results52,eH,ko,go_sem,q0,q1,q2,q3,q4,q5]) rfl ⟨rfl,HB.out⟩
def cy:By:=List.replicate 232 0
theorem io (w:World):Calls Tryz.prog 94 #[] w fun e w'=>e=.returned (.string (ak cy))∧Below w.heap.size w w':=by have HR:=hid (fun (w:World)=>cO 232 w (by decide));go_enter Tryz.func94,Tryz.ntmps94;go_wp2_with fail;refine (HR.out w).mono ?_;rintro e w1 ⟨rfl,hb⟩;have HB:=hid hb;clear hb;go_wp2_with fail;go_ret;exact ⟨rfl,HB.out⟩
end Go.Proofs.YtdmhbgpejppbkaaGreat
namespace Go.Proofs.YtdmhbgpejppbkaaGreat
open Go.Lib (hid)
open Go.RowKit Go.Maps
def PTo (w:World) (L:PgL) (P:Pgr) (w':World):Prop:=∃ L',L'.gp=L.gp∧PgIs w' L' P∧(∀ k,L'.F k→L.F k∨w.heap.size≤k)∧Ch L.F w w'
section
variable {w w1 w':World} {L L1:PgL} {P:Pgr}
theorem PTo.pre (h:PTo w1 L P w') (hb:Below w.heap.size w w1):PTo w L P w':=by obtain ⟨L',h1,h2,h3,h4⟩:=h;exact ⟨L',h1,h2,fun k hk=>(h3 k hk).imp id fun e=>Nat.le_trans hb.size e,(Ch.of_below hb).trans h4⟩
theorem PTo.post (h:PTo w L P w1) (hb:Below w1.heap.size w1 w'):PTo w L P w':=by obtain ⟨L',h1,h2,h3,h4⟩:=h;exact ⟨L',h1,h2.below hb,h3,h4.trans (Ch.of_below hb)⟩
theorem PTo.and (h1:L1.gp=L.gp) (hF:∀ k,L1.F k→L.F k∨w.heap.size≤k) (hc:Ch L.F w w1) (h:PTo w1 L1 P w'):PTo w L P w':=by
 obtain ⟨L',e1,e2,e3,e4⟩:=h;refine ⟨L',e1.trans h1,e2,fun k hk=>?_,hc.then e4 hF⟩;rcases e3 k hk with e | e
 ·exact hF k e
 ·exact .inr (Nat.le_trans hc.size e)
theorem PTo.refl (h:PgIs w L P):PTo w L P w:=⟨L,rfl,h,fun _ hk=>.inl hk,Ch.refl _ _⟩
theorem PTo.dk (h:PgIs w L P) {d:Dk} (hd:DkTo w L.D d w'):PTo w L { P with d:=d } w':=by
 obtain ⟨D,e1,e2,e3,e4⟩:=hd;refine ⟨{ L with D:=D },rfl,h.setDk e1 e2 e3 e4 fun _ hk=>hk,fun k hk=>?_,e4.mono fun k _ hk=>.inr (.inl hk)⟩;rcases hk with hk | hk | hk
 ·exact .inl (.inl hk)
 ·exact (e3 k hk).imp (fun e=>.inr (.inl e)) id
 ·exact .inl (.inr (.inr hk))
end
theorem PgIs.newJn {w w1 w2:World} {L:PgL} {P P':Pgr} (h:PgIs w L P) (hb:Below w.heap.size w w1) {g:Nat × Nat} {x:Jn} (hx:JnIs w1 L.D.gd g.1 g.2 x) (h1:w.heap.size≤g.1) (h2:w.heap.size≤g.2) (hc:Ch (fun k=>k=L.gp) w1 w2)
  (hB:w2.heap[L.gp]?=some (co { L with N:=some g } P')) (hd:P'.d=P.d) (hs:P'.size=P.size) (hca:P'.ca=P.ca) (hn:P'.notes=some x) (hv:P'.saves=P.saves) (hok:P'.Ok) (hgd:P'.gd=P.gd:=by rfl):PTo w L P' w2:=by
 have a1:=h.sep.upd (l1:=[Ob.blk L.gp (co L P),gJ L.D P.d,gK L.Fc L.vc P.size P.ca]) (a:=iw L.D.gd L.N P.notes) (b:=iw L.D.gd (some g) (some x)) (Ch.of_below (S:=fun _=>False) hb) (fun _ h=>h.elim) (.inr ⟨g,x,rfl,rfl,hx⟩) (fun k hk=>by
  rcases hk with rfl | rfl
  ·exact .inr h1
  ·exact .inr h2)
 have a2:=a1.upd (l1:=[]) (b:=Ob.blk L.gp (co { L with N:=some g } P')) hc (fun k hk=>hk) hB (fun k hk=>.inl hk);refine ⟨{ L with N:=some g },rfl,⟨?_,hok,h.gd.trans hgd.symm⟩,fun k hk=>?_,(Ch.of_below hb).trans (hc.mono fun k _ e=>.inl e)⟩
 ·unfold PgL.obs;rw [hd,hs,hca,hn,hv];exact a2
 ·rcases hk with hk | hk | hk | hk | hk
  ·exact .inl (.inl hk)
  ·exact .inl (.inr (.inl hk))
  ·exact .inl (.inr (.inr (.inl hk)))
  ·rcases hk with rfl | rfl
   ·exact .inr h1
   ·exact .inr h2
  ·exact .inl (.inr (.inr (.inr (.inr hk))))
def Pgr.note (P:Pgr):Pgr:=match P.notes with
 | some _=>P
 | none=>{ P with notes:=some ⟨P.base,P.head.change+1,0,0,[]⟩ }
theorem dP (w:World) {L:PgL} {P:Pgr} (h:PgIs w L P) (hj:P.notes=none→P.d.file bg=none) (hc:P.head.change+1<18446744073709551616):
  Calls Tryz.prog 141 #[au L.gp] w fun e w'=>e=.returned (.int .i64 0)∧PTo w L P.note w':=by
 have HH:=hid h;have hC:=ai h.blk;have hl:=hC.lt;have z24:=hC.fz 24;have c24:=hC.c24;rcases h.jn with ⟨hN,hnn⟩ | ⟨g,x,hN,hnn,hx⟩
 ·have HST:=hid (fun (w':World) (hd:DkIs w' L.D P.d)=>mv P.base (P.head.change+1) w' hd (hj hnn) h.ok.base hc);have HE:=hid (show P.note={ P with notes:=some ⟨P.base,P.head.change+1,0,0,[]⟩ } by unfold Pgr.note;rw [hnn]);have hwr:IntKind.u64.wrap ((P.head.change:Int)+1)=(P.head.change:Int)+1:=IntWalk.u64_in _ (by omega);rw [show ((P.head.change+1:Nat):Int)=(P.head.change:Int)+1 by omega] at HST;have c0:=hC.c0;have c7:=hC.c7;have c8:=hC.c8;rw [hN] at c24;have HNN:=hid (And.intro hN hnn);unfold ep au at *;clear h hC hj hc hN hnn;go_enter Tryz.func141,Tryz.ntmps141;go_upto_region 3 with fail
  go_region_held3 (fun w'=>w'.cell? ⟨L.gp,0,none⟩=some (.pointer (some ⟨L.D.gd,0,none⟩))∧w'.cell? ⟨L.gp,7,none⟩=some (.int .u64 P.head.change)∧w'.cell? ⟨L.gp,8,none⟩=some (.int .i64 P.base)) (first | exact ⟨d0,d7,d8⟩ | exact ⟨c0,c7,c8⟩)
   (first
    | (go_at_call 201;(with_reducible refine (HST.out _ ?ba).mono ?_);(case ba=>exact HH.out.dk.ch (Ch.drew (Ch.refl (fun _=>False) w)) (fun _ _ h=>h));rintro e w1 ⟨gj,gn,rfl,hx,hgj,hgn,hb⟩;have HB:=hid (show Below w.heap.size w w1 from ((Below.refl w.heap.size w).drew).trans hb);have HX:=hid (And.intro hx (And.intro hgj hgn));clear hx hgj hgn hb;have hC1:=ai (HH.out.below HB.out).blk;have d0:=hC1.c0;have d7:=hC1.c7;have d8:=hC1.c8;clear hC1))
  have hC1:=ai (HH.out.below HB.out).blk;have k24:=hC1.c24;have y24:=hC1.fz 24;have kl:=hC1.lt;have hc2:Ch (fun k=>k=L.gp) w1 (w1.setCell ⟨L.gp,24,none⟩ (.pointer (some ⟨gj,0,none⟩))):=(Ch.refl (fun k=>k=L.gp) w1).setCell (p:=⟨L.gp,24,none⟩) rfl _;have HF:=hid (show PTo w L P.note (w1.setCell ⟨L.gp,24,none⟩ (.pointer (some ⟨gj,0,none⟩))) from by
   rw [HE.out];exact HH.out.newJn HB.out (g:=(gj,gn)) HX.out.1 HX.out.2.1 HX.out.2.2 hc2 (ae (HH.out.below HB.out).blk 24 (.pointer (some ⟨gj,0,none⟩))) rfl rfl rfl rfl rfl ⟨HH.out.ok.s1,HH.out.ok.s2,HH.out.ok.base,HH.out.ok.hp,HH.out.ok.wp,HH.out.ok.nos⟩)
  clear hC1 hc2 c0 c7 c8 d0 d7 d8;go_wp2_with fail;go_ret;exact ⟨rfl,HF.out⟩
 ·have HE:=hid (show P.note=P by unfold Pgr.note;rw [hnn]);rw [hN] at c24;unfold ep au at *;clear h hC hj hc hN hnn hx;go_enter Tryz.func141,Tryz.ntmps141;go_wp2_with fail;go_ret;exact ⟨rfl,by rw [HE.out];exact PTo.refl HH.out⟩
def Dk.put (d:Dk) (n:Nat) (s:By):Dk:=d.wr aI n (aF 1 n 0 s)
def Dk.lay (d:Dk) (n:Nat) (s:By):Dk:=(d.fill aI (n - d.len aI)).put n s
theorem ma (n:Nat) (s:By) (w:World) {L:PgL} {P:Pgr} (h:PgIs w L P) (hf:P.d.Fine) (hc:P.d.Can aI n) (hn:n<4294967296) (hs:s.length=232):
  Calls Tryz.prog 216 #[au L.gp,.int .i64 n,.string (ak s)] w fun e w'=>e=.returned (.int .i64 0)∧PTo w L { P with d:=P.d.put n s } w':=by
 have HC:=hid (fun w=>jG 1 n 0 s w (by decide) hn (by decide) hs);have HW:=hid (fun (w':World) (hd:DkIs w' L.D P.d)=>fL aI (by decide) n (aF 1 n 0 s) w' hd);rw [hf.wrE (by decide) (cZ hs) hc,hf.wrS (by decide) (cZ hs) hc] at HW;have HH:=hid h;obtain ⟨hl,hfz,c0,-,-⟩:=sC h.blk;unfold gC au dQ at *;clear h hf hc hn hs hfz;go_enter Tryz.func216,Tryz.ntmps216;go_wp2_with fail;refine (HC.out _).mono ?_;rintro e w1 ⟨rfl,hb⟩;have HP1:=hid (HH.out.below hb);have HB:=hid hb;obtain ⟨hl,hfz,c0,-,-⟩:=sC HP1.out.blk;unfold au at c0;clear hb hfz;go_wp2_with fail;refine (HW.out w1 HP1.out.dk).mono ?_;rintro e w2 ⟨rfl,hr⟩;have HR:=hid hr;clear hr;go_wp2_with fail;go_ret;exact ⟨rfl,(PTo.dk HP1.out HR.out).pre HB.out⟩
end Go.Proofs.YtdmhbgpejppbkaaGreat
namespace Go.Proofs.YtdmhbgpejppbkaaGreat
open Go.Lib (hid)
open Go.RowKit Go.Maps
theorem uJ:ak aI=⟨#[100,97,116,97]⟩:=rfl
structure FillOk (d d':Dk) (k:Nat):Prop where
 fine:d'.Fine
 len:d'.len aI=d.len aI+k
 total:d'.total=d.total+k
 room:d'.room=d.room
 few:d'.file aI=none→d'.files.length<8
theorem nh {d:Dk} (hf:d.Fine) (hw:d.file aI=none→d.files.length<8):FillOk d (d.fill aI 0) 0:=⟨hf,rfl,rfl,rfl,hw⟩
theorem ng {d:Dk} {k:Nat} (h:FillOk d (d.fill aI k) k) (hok:(d.fill aI k).Ok):FillOk d (d.fill aI (k+1)) (k+1) where
 fine:=h.fine.wr
 len:=by show ((d.fill aI k).wr aI (d.len aI+k) zeroS).len aI=_;rw [Dk.len_wr hok,h.len,if_pos ⟨rfl,rfl⟩];omega
 total:=by show ((d.fill aI k).wr aI (d.len aI+k) zeroS).total=_;rw [Dk.total_wr hok,h.len,if_pos rfl,h.total];omega
 room:=h.room
 few:=fun hn=>by
  have:((d.fill aI k).wr aI (d.len aI+k) zeroS).file aI=none:=hn;rw [Dk.wr_file hok,if_pos rfl] at this;cases this
theorem fK:zeroS.length=256:=List.length_replicate
theorem lY (w:World):Calls Tryz.prog 82 #[.string ⟨#[0]⟩,.int .i64 256] w fun e w'=>e=.returned (.string (ak zeroS))∧Below w.heap.size w w':=by have h:=Tryz.strings_Repeat ⟨#[0]⟩ 256 w (by omega) (by decide);rw [show (⟨#[0]⟩:ByteArray).data.toList=[0] from rfl,dO] at h;exact h
theorem kU (n:Nat) (s:By) (w:World) {L:PgL} {P:Pgr} (h:PgIs w L P) (hf:P.d.Fine) (hw:P.d.file aI=none→P.d.files.length<8) (hr:(P.d.total:Int)+n+1≤P.d.room) (hn:n<4096) (hs:s.length=232):
  Calls Tryz.prog 160 #[au L.gp,.int .i64 n,.string (ak s)] w fun e w'=>e=.returned (.int .i64 0)∧PTo w L { P with d:=P.d.lay n s } w':=by
 have HH:=hid h;have HSZ:=hid (cn aI (by decide) w h.dk);have hmx:max (P.d.size aI) 0=(P.d.len aI:Int):=Dk.len_max;have c0:=(ai h.blk).c0;have hl:=(ai h.blk).lt;have HF0:=hid (nh hf hw);have HR:=hid hr;have HN:=hid hn;have HS:=hid hs;have HRP:=hid lY;obtain ⟨len,hlen⟩:∃ len,len=P.d.len aI:=⟨_,rfl⟩;rw [← hlen] at hmx;have HLEN:=hid hlen;unfold au dQ at *;generalize P.d.size aI=sz at *;clear h hf hw hr hn hs hlen;go_enter Tryz.func160,Tryz.ntmps160;go_wp2_with fail;refine HSZ.out.mono ?_;rintro e w' ⟨rfl,rfl⟩;go_wp2_with fail;go_loopw [7] (fun av wr=>∃ k a:Nat,a=len+k∧k≤n - len∧av=.int .i64 a∧FillOk P.d (P.d.fill aI k) k∧PTo w L { P with d:=P.d.fill aI k } wr) (fun av _=>n - (intOf av).toNat)
 case atStart=>exact ⟨0,len,rfl,Nat.zero_le _,rfl,HF0.out,PTo.refl HH.out⟩
 case round=>
  obtain ⟨k,a,ha,hk,rfl,hfo,hto⟩:=hrel;have HK:=hid hfo;obtain ⟨L1,hg1,hp1,hF1,hc1⟩:=hto;have HP1:=hid hp1;have HG1:=hid hg1;have HT1:=hid (And.intro hF1 hc1);have c0:=(ai hp1.blk).c0;have hl:=(ai hp1.blk).lt;rw [hg1] at c0 hl;unfold au at c0;clear hfo hg1 hp1 hF1 hc1;have HA:=hid (And.intro ha hk);clear ha hk;by_cases hlt:a<n
  ·have hlt2:(a:Int)<(n:Int):=by omega
   have hwr:IntKind.i64.wrap ((a:Int)+1)=(a:Int)+1:=IntWalk.i64_in _ (by have:=HN.out;omega);have HW:=hid (fun (w':World) (hd:DkIs w' L1.D (P.d.fill aI k))=>fL aI (by decide) (a:Int) zeroS w' hd);have hcan:(P.d.fill aI k).Can aI a:=⟨by rw [HK.out.len,← HLEN.out];exact Nat.le_of_eq HA.out.1,HK.out.few,fun _=>by rw [HK.out.total,HK.out.room];have:=HR.out;have:=HA.out;omega⟩;rw [HK.out.fine.wrE (by decide) fK hcan,HK.out.fine.wrS (by decide) fK hcan] at HW;unfold dQ at HW;rw [uJ] at HW;have HU:=hid (ng HK.out HP1.out.dk.ok);have HE:=hid (show (P.d.fill aI k).wr aI a zeroS=P.d.fill aI (k+1) by rw [HA.out.1,HLEN.out];rfl);rw [HE.out] at HW;clear hcan;go_upto_region 4 with fail
   go_region_held3 (fun w'=>w'.cell? ⟨L.gp,0,none⟩=some (.pointer (some ⟨L1.D.gd,0,none⟩))) (first | exact f0 | exact d0 | exact c0)
    (first
     | (go_at_call 82;(with_reducible refine (HRP.out _).mono ?_);rintro e w5 ⟨rfl,hb5⟩;have HB5:=hid (show Below wr.heap.size wr w5 from ((Below.refl wr.heap.size wr).drew).trans hb5);clear hb5;have HP5:=hid (HP1.out.below HB5.out);have d0:=(ai HP5.out.blk).c0;rw [HG1.out] at d0;unfold au at d0)
     | (go_at_call 210;(with_reducible refine (HW.out _ ?ba).mono ?_);(case ba=>exact HP5.out.dk);rintro e w6 ⟨rfl,D6,e1,e2,e3,e4⟩;have HP6:=hid (HP5.out.setDk e1 e2 e3 e4 (fun _ hk=>hk));have HX6:=hid (PTo.dk HP5.out ⟨D6,e1,e2,e3,e4⟩);have f0:=(ai HP6.out.blk).c0;simp only [HG1.out,e1] at f0;unfold au at f0;clear e1 e2 e3 e4))
   clear c0 d0 f0 HP6;go_wp2_with fail;go_roundw
   case rel=>exact ⟨k+1,a+1,by have:=HA.out;omega,by have:=HA.out;omega,by go_num,HU.out,PTo.and HG1.out HT1.out.1 HT1.out.2 (HX6.out.pre HB5.out)⟩
   case measure=>simp [intOf];omega
  ·have HW:=hid (ma n s wr HP1.out HK.out.fine ⟨by rw [HK.out.len,← HLEN.out];have:=HA.out;omega,HK.out.few,fun e=>by rw [HK.out.total,HK.out.room];have:=HR.out;have:=HA.out;omega⟩ (by have:=HN.out;omega) HS.out);have HE:=hid (show (P.d.fill aI k).put n s=P.d.lay n s by
    unfold Dk.lay;rw [← HLEN.out,show n - len=k by have:=HA.out;omega])
   rw [HE.out,HG1.out] at HW;unfold au at HW;have hge:(n:Int)≤(a:Int):=by omega
   go_wp2_with fail;refine HW.out.mono ?_;rintro e w2 ⟨rfl,hr⟩;have HX:=hid (PTo.and HG1.out HT1.out.1 HT1.out.2 hr);clear hr;go_wp2_with fail;go_ret;exact ⟨rfl,HX.out⟩
end Go.Proofs.YtdmhbgpejppbkaaGreat
namespace Go.Proofs.YtdmhbgpejppbkaaGreat
open Go.Lib (hid)
open Go.RowKit Go.Maps
section
variable {w w':World} {L:PgL} {P P':Pgr}
theorem PgIs.calt (h:PgIs w L P):∀ k,L.Fc k→k<w.heap.size:=(h.sep.1 (gK L.Fc L.vc P.size P.ca) (by simp [PgL.obs])).2
theorem PgIs.build (hok:P.Ok) (h1:w.heap[L.gp]?=some (co L P)) (h2:DkIs w L.D P.d) (h3:Ca w L.Fc L.vc P.size P.ca) (h4:∀ k,L.Fc k→k<w.heap.size) (h5:qT w L.D.gd L.N P.notes) (h6:SvIs w L.vs L.gs P.saves) (A:Apart L) (hgd:L.D.gd=P.gd):PgIs w L P:=by
 refine ⟨⟨?_,?_⟩,hok,hgd⟩
 ·simp only [PgL.obs,List.forall_mem_cons];exact ⟨h1,h2,⟨h3,h4⟩,h5,h6,fun _ h=>absurd h List.not_mem_nil⟩
 ·simp only [PgL.obs,List.pairwise_cons,List.forall_mem_cons];exact ⟨⟨fun k e=>e ▸ A.pd,fun k e=>e ▸ A.pc,fun k e=>e ▸ A.pj,fun k e=>e ▸ A.ps,fun _ h=>absurd h List.not_mem_nil⟩,⟨A.dc,A.dj,A.ds,fun _ h=>absurd h List.not_mem_nil⟩,⟨A.cj,A.cs,fun _ h=>absurd h List.not_mem_nil⟩,⟨A.js,fun _ h=>absurd h List.not_mem_nil⟩,fun _ h=>absurd h List.not_mem_nil,List.Pairwise.nil⟩
theorem PgIs.setDJ (h:PgIs w L P) {g:Nat × Nat} {d:Dk} {x:Jn} (hg:L.N=some g) (hj:uG w L.D g.1 g.2 d x w'):PTo w L { P with d:=d,notes:=some x } w':=by
 obtain ⟨D,e1,e2,e3,e4,e5⟩:=hj;have A:=h.apart;have jF:∀ k,pe L.N k↔k=g.1∨k=g.2:=fun k=>by rw [hg];rfl
 have hnew:∀ k,D.F k→L.D.F k∨w.heap.size≤k:=e4;have hS:∀ k,(L.D.F k∨k=g.1∨k=g.2)→L.D.F k∨pe L.N k:=fun k hk=>hk.imp id (jF k).2
 refine ⟨{ L with D:=D },rfl,PgIs.build ⟨h.ok.s1,h.ok.s2,h.ok.base,h.ok.hp,h.ok.wp,h.ok.nos⟩ ?_ e2 (h.ca.ch e5 fun k hk hs=>?_) (fun k hk=>Nat.lt_of_lt_of_le (h.calt k hk) e5.size) (.inr ⟨g,x,hg,rfl,by rw [e1];exact e3⟩) (h.sv.ch e5 fun k hk hs=>?_) ⟨fun hk=>?_,A.pc,A.pj,A.ps,fun k hk hc=>?_,fun k hk hc=>?_,fun k hk hc=>?_,A.cj,A.cs,A.js⟩ (e1.trans h.gd),fun k hk=>?_,e5.mono fun k _ hk=>?_⟩
 ·have e:co { L with D:=D } { P with d:=d,notes:=some x }=co L P:=by unfold co;simp only [e1]
  rw [e];exact e5.keep h.blk fun hk=>(hS _ hk).elim A.pd A.pj
 ·exact (hS _ hs).elim (fun e=>A.dc k e hk) (fun e=>A.cj k hk e)
 ·exact (hS _ hs).elim (fun e=>A.ds k e hk) (fun e=>A.js k e hk)
 ·exact (hnew _ hk).elim A.pd fun e=>absurd (af h.blk) (Nat.not_lt.2 e)
 ·exact (hnew _ hk).elim (fun e=>A.dc k e hc) fun e=>by have:=h.calt k hc;omega
 ·exact (hnew _ hk).elim (fun e=>A.dj k e hc) fun e=>by have:=h.lt (.inr (.inr (.inr (.inl hc))));omega
 ·exact (hnew _ hk).elim (fun e=>A.ds k e hc) fun e=>by have:=h.lt (.inr (.inr (.inr (.inr hc))));omega
 ·rcases hk with hk | hk | hk
  ·exact .inl (.inl hk)
  ·exact (hnew _ hk).imp (fun e=>.inr (.inl e)) id
  ·exact .inl (.inr (.inr hk))
 ·exact (hS _ hk).elim (fun e=>.inr (.inl e)) fun e=>.inr (.inr (.inr (.inl e)))
theorem PgIs.cell (h:PgIs w L P) (k:Nat) (v:Value) (hb:(w.setCell ⟨L.gp,k,none⟩ v).heap[L.gp]?=some (co L P')) (h1:P'.d=P.d) (h2:P'.size=P.size) (h3:P'.ca=P.ca) (h4:P'.notes=P.notes) (h5:P'.saves=P.saves) (hok:P'.Ok) (hgd:P'.gd=P.gd:=by rfl):PTo w L P' (w.setCell ⟨L.gp,k,none⟩ v):=
 have hc:=(Ch.refl (fun j=>j=L.gp) w).setCell (p:=⟨L.gp,k,none⟩) rfl v
 ⟨L,rfl,h.setBlk hc hb h1 h2 h3 h4 h5 hok hgd,fun _ hk=>.inl hk,hc.mono fun _ _ e=>.inl e⟩
theorem PTo.keep {g:Nat} {o:Obj} (h:PTo w L P w') (hg:w.heap[g]?=some o) (hn:¬ L.F g):w'.heap[g]?=some o:=by obtain ⟨L1,h1,h2,h3,h4⟩:=h;exact h4.keep hg hn
end
def Pgr.seal (P:Pgr):Pgr:=match P.notes with
 | some j=>{ P with d:=j.sealD P.d,notes:=some j.sealJ }
 | none=>P
def Pgr.sealed (P:Pgr):Pgr:={ P.note.seal with marred:=true }
def Pgr.spill (P:Pgr) (n:Nat) (s:By):Pgr:={ P.sealed with d:=P.sealed.d.lay n s }
structure CanSpill (P:Pgr) (n:Nat) (s:By):Prop where
 j0:P.notes=none→P.d.file bg=none
 ch:P.head.change+1<18446744073709551616
 cs:∀ j,P.note.notes=some j→CanSeal P.d j
 lf:P.sealed.d.Fine
 lw:P.sealed.d.file aI=none→P.sealed.d.files.length<8
 lr:(P.sealed.d.total:Int)+n+1≤P.sealed.d.room
 n:n<4096
 s:s.length=232
theorem dC (P:Pgr):∃ j,P.note.notes=some j:=by
 unfold Pgr.note;cases h:P.notes with
 | none=>exact ⟨_,rfl⟩
 | some j=>exact ⟨j,h⟩
theorem kj (P:Pgr):P.note.d=P.d:=by unfold Pgr.note;cases P.notes <;> rfl
def rz (n:Nat) (s:By):Obj:=.cells #[.int .i64 n,.string (ak s)] 134 (0,0)
theorem um {w:World} {g n:Nat} {s:By} (h:w.heap[g]?=some (rz n s)):w.cell? ⟨g,0,none⟩=some (.int .i64 n)∧w.cell? ⟨g,1,none⟩=some (.string (ak s))∧g<w.heap.size:=⟨aa h 0,aa h 1,af h⟩
theorem mg (n:Nat) (s:By) (w:World) {L:PgL} {P:Pgr} (h:PgIs w L P) (hc:CanSpill P n s):
  Calls Tryz.prog 185 #[au L.gp,.agg #[.int .i64 n,.string (ak s)]] w fun e w'=>e=.returned (.int .i64 0)∧PTo w L (P.spill n s) w':=by
 have hA:Below w.heap.size w (w.alloc (rz n s)):=(Below.refl _ w).alloc (Nat.le_refl _) _;have HA:=hid hA;have HX0:=hid (ah (w0:=w) (g:=w.heap.size) (o:=rz n s) rfl);have HH:=hid (h.below hA);have hbl:∀ k,L.F k→k<w.heap.size:=fun k hk=>h.lt hk
 have HBL:=hid hbl;have hC:=ai HH.out.blk;have c9:=hC.c9;have hl:=hC.lt;have HN:=hid (dP _ HH.out hc.j0 hc.ch);have HC:=hid hc;clear hA hbl hC h hc;unfold au at *;go_enter Tryz.func185,Tryz.ntmps185;go_upto_region 1 with fail
 have hw0:∃ w0,w.alloc (rz n s)=w0:=⟨_,rfl⟩;obtain ⟨w0,hw0⟩:=hw0;rw [hw0] at HA HX0 HH HN c9 hl;unfold rz at hw0;rw [hw0];have HW0:=hid hw0;clear hw0;go_wp2_with fail;refine HN.out.mono ?_;rintro e w1 ⟨rfl,hto⟩;have HX1:=hid (hto.keep HX0.out fun hk=>Nat.lt_irrefl _ (HBL.out _ hk));obtain ⟨L1,g1,p1,f1,c1⟩:=hto;obtain ⟨j,hj⟩:=dC P;rcases p1.jn with ⟨-,hno⟩ | ⟨g,x,hN,hnn,hx⟩
 ·rw [hj] at hno;cases hno
 obtain rfl:x=j:=by rw [hj] at hnn;injection hnn with e;exact e.symm
 have hA1:=p1.apart;have jF:∀ k,(k=g.1∨k=g.2)→pe L1.N k:=fun k e=>by rw [hN];exact e
 have hC1:=ai p1.blk;have k24:=hC1.c24;have kl:=hC1.lt;rw [hN] at k24;unfold ep au at k24;have HSL:=hid (jv x w1 p1.dk hx (fun e=>hA1.dj _ e (jF _ (.inl rfl))) (fun e=>hA1.dj _ e (jF _ (.inr rfl))) (by rw [kj];exact HC.out.cs x hj));unfold au at HSL;have HP1:=hid p1;have HG1:=hid (And.intro g1 (And.intro f1 c1));have HN1:=hid hN;have HJ1:=hid hj;have HE1:=hid (show P.note.seal={ P.note with d:=x.sealD P.note.d,notes:=some x.sealJ } by unfold Pgr.seal;rw [hj]);rw [g1] at k24 kl;clear g1 f1 c1 p1 hj hN hnn hx hA1 jF hC1;go_wp2_with fail;refine HSL.out.mono ?_;rintro e w2 ⟨rfl,hto⟩;have hto:=HP1.out.setDJ HN1.out hto;rw [← HE1.out] at hto;have hbx1:¬ L1.F w.heap.size:=fun e=>(HG1.out.2.1 _ e).elim (fun e=>Nat.lt_irrefl _ (HBL.out _ e)) (fun e=>by have:=HA.out.size;have:=af HX0.out;omega)
 have HX2:=hid (hto.keep HX1.out hbx1);obtain ⟨L2,g2,p2,f2,c2⟩:=hto;have hq:PgIs (w2.setCell ⟨L.gp,25,none⟩ (.bool true)) L2 P.sealed∧Ch (fun k=>k=L.gp) w2 (w2.setCell ⟨L.gp,25,none⟩ (.bool true)):=by have hc:=(Ch.refl (fun j=>j=L.gp) w2).setCell (p:=⟨L.gp,25,none⟩) rfl (.bool true);have hg:L2.gp=L.gp:=g2.trans HG1.out.1;rw [← hg];rw [← hg] at hc;exact ⟨p2.setBlk hc (ae p2.blk 25 (.bool true)) rfl rfl rfl rfl rfl ⟨p2.ok.s1,p2.ok.s2,p2.ok.base,p2.ok.hp,p2.ok.wp,p2.ok.nos⟩,hc⟩
 have HQ:=hid hq;have HG2:=hid (And.intro g2 (And.intro f2 c2));have hC2:=ai p2.blk;have k25:=hC2.c25;have z25:=hC2.fz 25;have kl2:=hC2.lt;rw [g2,HG1.out.1] at k25 z25 kl2;have hbx2:¬ L2.F w.heap.size:=fun e=>(f2 _ e).elim hbx1 (fun e=>by have:=af HX1.out;omega)
 have HX3:=hid (hq.2.keep HX2.out (fun e=>hbx1 (.inl (e.trans HG1.out.1.symm))));clear hto g2 f2 c2 p2 hC2 hq hbx1 hbx2 c9 hl k24 kl;go_upto_region 10 with fail
 generalize w2.setCell ⟨L.gp,25,none⟩ (.bool true)=w3 at *;clear k25 z25 kl2;obtain ⟨x0,x1,xl⟩:=um HX3.out;have HLY:=hid (kU n s w3 HQ.out.1 HC.out.lf HC.out.lw HC.out.lr HC.out.n HC.out.s);rw [HG2.out.1,HG1.out.1] at HLY;unfold au at HLY;go_wp2_with fail;refine HLY.out.mono ?_;rintro e w4 ⟨rfl,hto⟩;have HT:=hid hto;clear hto;go_wp2_with fail;go_ret;refine ⟨rfl,PTo.pre ?_ HA.out⟩;refine PTo.and HG1.out.1 HG1.out.2.1 HG1.out.2.2 (PTo.and HG2.out.1 HG2.out.2.1 HG2.out.2.2 ?_);exact PTo.and rfl (fun _ hk=>.inl hk) (HQ.out.2.mono fun k _ e=>.inl (e.trans (HG2.out.1.trans HG1.out.1).symm)) HT.out
end Go.Proofs.YtdmhbgpejppbkaaGreat
namespace Go.Proofs.YtdmhbgpejppbkaaGreat
open Go.Lib (hid)
open Go.RowKit Go.Maps
theorem PgIs.putCa {w w':World} {L:PgL} {P:Pgr} (h:PgIs w L P) {F':Nat→Prop} {ca:List On} (hd:Ca w' F' L.vc P.size ca) (hF:∀ k,F' k→L.Fc k∨w.heap.size≤k) (hc:Ch L.Fc w w'):
  ∃ G:List Nat,(∀ k ∈ G,F' k)∧PgIs w' { L with Fc:=fun k=>k ∈ G } { P with ca:=ca }∧(∀ k,({ L with Fc:=fun k=>k ∈ G }:PgL).F k→L.F k∨w.heap.size≤k)∧Ch L.F w w':=by
 obtain ⟨G,h1,h2⟩:=hd.lt;refine ⟨G,fun k hk=>(h1 k hk).2,h.setCa h2 (fun k hk=>(h1 k hk).1) (fun k hk=>hF k (h1 k hk).2) hc (fun _ hk=>hk),fun k hk=>?_,hc.mono fun k _ hk=>.inr (.inr (.inl hk))⟩;rcases hk with hk | hk | hk | hk
 ·exact .inl (.inl hk)
 ·exact .inl (.inr (.inl hk))
 ·exact (hF k (h1 k hk).2).imp (fun e=>.inr (.inr (.inl e))) id
 ·exact .inl (.inr (.inr (.inr hk)))
def Pgr.spills (P:Pgr) (l:List Pg):Pgr:=l.foldl (fun Q x=>Q.spill x.n.toNat (bs x.s)) P
def Pgr.putc (P:Pgr) (n:Nat) (s:By) (d:Bool):Pgr:={ P with ca:=(fV P.size n (ak s) d P.ca).1 }
def Pgr.gone (P:Pgr) (n:Nat) (s:By) (d:Bool):List Pg:=(fV P.size n (ak s) d P.ca).2
def Pgr.hold (P:Pgr) (n:Nat) (s:By) (d:Bool):Pgr:=(P.putc n s d).spills (P.gone n s d)
def bw (P:Pgr) (l:List Pg):Prop:=∀ k x,l[k]?=some x→0≤x.n∧CanSpill (P.spills (l.take k)) x.n.toNat (bs x.s)
theorem nH (P:Pgr) (l:List Pg) {k:Nat} (h:k<l.length):P.spills (l.take (k+1))=(P.spills (l.take k)).spill (l[k]).n.toNat (bs (l[k]).s):=by unfold Pgr.spills;rw [List.take_succ_eq_append_getElem h,List.foldl_append];rfl
theorem bX (n:Nat) (s:By) (d:Bool) (w:World) {L:PgL} {P:Pgr} (h:PgIs w L P) (hn:n<4096) (hl:(P.gone n s d).length≤1000) (hc:bw (P.putc n s d) (P.gone n s d)):
  Calls Tryz.prog 123 #[au L.gp,.int .i64 n,.string (ak s),.bool d] w fun e w'=>e=.returned (.int .i64 0)∧PTo w L (P.hold n s d) w':=by
 have HH:=hid h;have hC:=ai h.blk;have c1:=hC.c1;have hgl:=hC.lt;have HPT:=hid (tE n (ak s) d w h.ca (cR (by omega)) h.ok.s1 h.ok.s2);have HC:=hid hc;have HLN:=hid hl;clear hC h hn hc hl;unfold au at *;go_enter Tryz.func123,Tryz.ntmps123;go_wp2_with fail;refine HPT.out.mono ?_;rintro e w1 ⟨r,F',rfl,hca,hsl,hnew,hrF,hF,hch⟩;obtain ⟨G,hG,p1,f1,k1⟩:=HH.out.putCa hca hF hch;obtain ⟨l,hlg⟩:∃ l,l=P.gone n s d:=⟨_,rfl⟩;have hsl2:Sl Pg.cells 2 w1 r l:=by rw [hlg];exact hsl
 rw [← hlg] at HC HLN
 have hro:∀ k,r.ownBlock=some k→¬ ({ L with Fc:=fun k=>k ∈ G }:PgL).F k:=fun k hk hf=>by
  have hge:=hnew k hk;rcases hf with hf | hf | hf | hf | hf
  ·have:=af HH.out.blk;have hf:k=L.gp:=hf;omega
  ·have:=HH.out.lt (.inr (.inl hf));omega
  ·exact hrF k hk (hG k hf)
  ·have:=HH.out.lt (.inr (.inr (.inr (.inl hf))));omega
  ·have:=HH.out.lt (.inr (.inr (.inr (.inr hf))));omega
 have HP1:=hid p1;have HT1:=hid (And.intro f1 k1);have HSL:=hid hsl2;have HRO:=hid hro;have HLG:=hid hlg;obtain ⟨A,c,rfl⟩:=Sl.len' hsl2;clear hca hsl hnew hrF hF hch hG p1 f1 k1 hlg hsl2 hro c1 hgl;have HG1:=hid (show ({ L with Fc:=fun k=>k ∈ G }:PgL).gp=L.gp from rfl);generalize ({ L with Fc:=fun k=>k ∈ G }:PgL)=L1 at *;go_wp2_with fail;go_loopw [21] (fun iv wr=>∃ k:Nat,k≤l.length∧iv=.int .i64 k∧PTo w1 L1 ((P.putc n s d).spills (l.take k)) wr) (fun iv _=>l.length - (intOf iv).toNat)
 case atStart=>exact ⟨0,Nat.zero_le _,rfl,PTo.refl HP1.out⟩
 case round=>
  obtain ⟨k,hk,rfl,hto⟩:=hrel;have HTO:=hid hto;obtain ⟨L2,g2,p2,f2,c2⟩:=hto;have HS2:=fh HSL.out c2 HRO.out;have HP2:=hid p2;have HG2:=hid (And.intro g2 (And.intro f2 c2));clear g2 p2 f2 c2;by_cases hlt:k<l.length
  ·obtain ⟨b,off,c',he,hbl,hcells⟩:=HS2.at1 hlt;injection he with he1 he2 he3
   subst he1 he3;have hcs:=HC.out k l[k] (List.getElem?_eq_getElem hlt);have hup:=nH (P.putc n s d) l hlt;have hk0:(0:Int)≤(k:Int):=by omega
   have hk1:(k:Int)<(l.length:Int):=by omega
   have HK:=hid (And.intro hk hlt);generalize l[k]=x at *;obtain ⟨xn,xs⟩:=x;obtain ⟨hx0,hx1⟩:=hcs;simp only at hx0 hx1 hup;obtain ⟨m,rfl⟩:∃ m:Nat,xn=m:=⟨xn.toNat,by omega⟩;obtain ⟨t,rfl⟩:∃ t,xs=ak t:=⟨bs xs,(eO xs).symm⟩;rw [aP,Int.toNat_natCast] at hx1 hup;have e0:wr.cell? ⟨b,off+k * 2,none⟩=some (.int .i64 m):=hcells 0 _ rfl;have e1:wr.cell? ⟨b,off+k * 2+1,none⟩=some (.string (ak t)):=hcells 1 _ rfl;have HUP:=hid hup;have hA:Below wr.heap.size wr (wr.alloc (rz m t)):=(Below.refl _ wr).alloc (Nat.le_refl _) _;have HA:=hid hA;have HSP:=hid (mg m t _ (HP2.out.below hA) hx1);rw [HG2.out.1,HG1.out] at HSP;unfold au rz at HSP;clear hcells hx1 hup HS2 hx0 hk hA;go_wp2_with fail;refine HSP.out.mono ?_;rintro e w3 ⟨rfl,hr⟩;have HR:=hid (show PTo w1 L1 ((P.putc n s d).spills (l.take (k+1))) w3 from by
    rw [HUP.out];exact PTo.and HG2.out.1 HG2.out.2.1 HG2.out.2.2 (PTo.pre hr HA.out))
   clear hr;have hl2:(k:Int)<1000:=by have:=HLN.out;omega
   go_wp2_with fail;go_roundw
   case rel=>exact ⟨k+1,by have:=HK.out;omega,by go_num,HR.out⟩
   case measure=>simp [intOf];omega
  ·obtain rfl:k=l.length:=by omega
   have HR:=hid (show PTo w L (P.hold n s d) wr from by
    have h1:=HTO.out;rw [List.take_length,HLG.out] at h1;exact PTo.and HG1.out HT1.out.1 HT1.out.2 h1)
   go_wp2_with fail;go_ret;exact ⟨rfl,HR.out⟩
def bm (d:Dk) (n:Nat) (s:By):Prop:=∃ f,d.file aI=some f∧f.now[n]?=some (aF 1 n 0 s)
theorem px {w:World} {n:Nat} {s:By}:(w.alloc (bW 1 n 0 (ak s))).heap[w.heap.size]?=some (bW 1 n 0 (ak s)):=ah rfl
theorem jj (n:Nat) (s:By) (w:World) {L:PgL} {P:Pgr} (h:PgIs w L P) (hf:P.d.Fine) (hd:bm P.d n s) (hn:n<4294967296) (hs:s.length=232):
  Calls Tryz.prog 103 #[au L.gp,.int .i64 n] w fun e w'=>e=.returned (.tuple #[.string (ak s),.int .i64 0])∧PTo w L P w':=by
 have HH:=hid h;obtain ⟨f,hf1,hf2⟩:=hd;obtain ⟨r1,r2⟩:=hf.rd (n:=aI) (by decide) hf1 hf2;have hC:=ai h.blk;have c0:=hC.c0;have hl:=hC.lt;have HRD:=hid (pF aI (by decide) n w h.dk);rw [r1,r2,hf.s (by decide)] at HRD;have HOP:=hid (fun w=>show Calls Tryz.prog 154 #[.string (ak (aF 1 n 0 s))] w fun e w'=>e=.returned (.tuple #[.agg #[.int .i64 1,.int .i64 n,.int .u64 0,.string (ak s)],.int .i64 0])∧Below w.heap.size w w' from pS 1 n 0 s w (by decide) hn (by decide) hs);unfold au dQ at *;rw [uJ] at HRD;generalize aF 1 n 0 s=sec at *;clear h hf hf1 hf2 r1 r2 hC hn hs;go_enter Tryz.func103,Tryz.ntmps103;go_wp2_with fail;refine HRD.out.mono ?_;rintro e w1 ⟨rfl,hd1,hc1⟩;have HT:=hid (show PTo w L P w1 from PTo.dk HH.out ⟨L.D,rfl,hd1,fun _ hk=>.inl hk,hc1.mono fun k _ e=>.inl e⟩);clear hd1 hc1;go_wp2_with fail;refine (HOP.out w1).mono ?_;rintro e w2 ⟨rfl,hb⟩;have HT2:=hid ((HT.out.post hb).post ((Below.refl w2.heap.size w2).alloc (Nat.le_refl _) (bW 1 n 0 (ak s))));have q:=px (w:=w2) (n:=n) (s:=s);obtain ⟨q0,q1,q2,q3,q4⟩:=ez q;clear hb q;go_upto_region 9 with fail
 have hw3:∃ w3,w2.alloc (bW 1 n 0 (ak s))=w3:=⟨_,rfl⟩;obtain ⟨w3,hw3⟩:=hw3;change Code.wp _ _ _ _ (w2.alloc (bW 1 n 0 (ak s)));rw [hw3] at q0 q1 q2 q3 q4 HT2 ⊢;have q0:w3.cell? ⟨w2.heap.size,0,none⟩=some (.int .i64 1):=q0;clear q2 hw3;go_wp2_with fail;go_ret2;exact ⟨rfl,HT2.out⟩
theorem nU (n:Nat) (s:By) (w:World) {L:PgL} {P:Pgr} (h:PgIs w L P) (hf:P.d.Fine) (hd:bm P.d n s) (hn:n<4294967296) (hs:s.length=232):
  Calls Tryz.prog 122 #[au L.gp,.int .i64 n] w fun e w'=>e=.returned (.tuple #[.string (ak s),.int .i64 0])∧PTo w L P w':=by
 have hC:=ai h.blk;have c9:=hC.c9;have hl:=hC.lt;have HM:=hid (jj n s w h hf hd hn hs);unfold au at *;clear h hf hd hn hs hC;go_enter Tryz.func122,Tryz.ntmps122;go_wp2_with fail;refine HM.out.mono ?_;rintro e w1 ⟨rfl,hr⟩;have HR:=hid hr;clear hr;go_wp2_with fail;go_ret2;exact ⟨rfl,HR.out⟩
theorem PgIs.getCa {w w':World} {L:PgL} {P:Pgr} (h:PgIs w L P) {ca:List On} (hd:Ca w' L.Fc L.vc P.size ca) (hc:Ch L.Fc w w'):PTo w L { P with ca:=ca } w':=
 ⟨L,rfl,h.setCa (F:=L.Fc) hd (fun k hk=>Nat.lt_of_lt_of_le (h.calt k hk) hc.size) (fun _ hk=>.inl hk) hc (fun _ hk=>hk),fun _ hk=>.inl hk,hc.mono fun _ _ hk=>.inr (.inr (.inl hk))⟩
def Pgr.fetch (P:Pgr) (n:Nat) (s:By):Pgr:=if (dh (n:Int) P.ca).2 then { P with ca:=iZ (n:Int) P.ca } else P.hold n s false
structure CanFetch (P:Pgr) (n:Nat) (s:By):Prop where
 fine:P.d.Fine
 lt:n<4096
 len:s.length=232
 yes:(dh (n:Int) P.ca).2=true→(dh (n:Int) P.ca).1=ak s
 no:(dh (n:Int) P.ca).2=false→bm P.d n s∧(P.gone n s false).length≤1000∧bw (P.putc n s false) (P.gone n s false)
theorem rP {n:Int} {L:List On} (h:(dh n L).2=false):iZ n L=L:=by
 unfold dh at h;unfold iZ;cases hf:L.find? (fun x=>x.1 == n) with
 | none=>rfl
 | some x=>rw [hf] at h;cases h
theorem rO {n:Int} {L:List On} (h:(dh n L).2=false):(dh n L).1=⟨#[]⟩:=by
 unfold dh at h ⊢;cases hf:L.find? (fun x=>x.1 == n) with
 | none=>rfl
 | some x=>rw [hf] at h;cases h
theorem cE (n:Nat) (s:By) (w:World) {L:PgL} {P:Pgr} (h:PgIs w L P) (hc:CanFetch P n s):
  Calls Tryz.prog 62 #[au L.gp,.int .i64 n] w fun e w'=>e=.returned (.tuple #[.string (ak s),.int .i64 0])∧PTo w L (P.fetch n s) w':=by
 have HH:=hid h;have hC:=ai h.blk;have c1:=hC.c1;have hl:=hC.lt;have HG:=hid (tF n w h.ca (cR (by have:=hc.lt;omega)));have HC:=hid hc;clear h hc hC;cases hy:(dh (n:Int) P.ca).2
 ·obtain ⟨hd,hlen,hcs⟩:=HC.out.no hy;have HF:=hid (show P.fetch n s=P.hold n s false by unfold Pgr.fetch;rw [hy];rfl);have HD:=hid (And.intro hd (And.intro hlen hcs));rw [rP hy,rO hy,hy] at HG;unfold au at *;clear hd hlen hcs hy;go_enter Tryz.func62,Tryz.ntmps62;go_wp2_with fail;refine HG.out.mono ?_;rintro e w1 ⟨rfl,hca,hch⟩;have hto:PTo w L P w1:=HH.out.getCa hca hch;obtain ⟨L1,g1,p1,f1,k1⟩:=hto;have HRD:=hid (nU n s w1 p1 HC.out.fine HD.out.1 (by have:=HC.out.lt;omega) HC.out.len);rw [g1] at HRD;have HP1:=hid (And.intro g1 (And.intro f1 k1));unfold au at HRD;clear hca hch g1 p1 f1 k1;go_wp2_with fail;refine HRD.out.mono ?_;rintro e w2 ⟨rfl,hr⟩;have hr2:=PTo.and (L:=L) HP1.out.1 HP1.out.2.1 HP1.out.2.2 hr;obtain ⟨L2,g2,p2,f2,k2⟩:=hr2;have HHD:=hid (bX n s false w2 p2 HC.out.lt HD.out.2.1 HD.out.2.2);rw [g2] at HHD;unfold au at HHD;have HT2:=hid (And.intro g2 (And.intro f2 k2));clear hr g2 p2 f2 k2;go_wp2_with fail;refine HHD.out.mono ?_;rintro e w3 ⟨rfl,hr⟩;have HT3:=hid (PTo.and (L:=L) HT2.out.1 HT2.out.2.1 HT2.out.2.2 hr);clear hr;go_wp2_with fail;go_ret2;exact ⟨rfl,by rw [HF.out];exact HT3.out⟩
 ·have HF:=hid (show P.fetch n s={ P with ca:=iZ (n:Int) P.ca } by unfold Pgr.fetch;rw [hy];rfl);rw [HC.out.yes hy,hy] at HG;unfold au at *;clear hy;go_enter Tryz.func62,Tryz.ntmps62;go_wp2_with fail;refine HG.out.mono ?_;rintro e w1 ⟨rfl,hca,hch⟩;have HT1:=hid (show PTo w L (P.fetch n s) w1 from by rw [HF.out];exact HH.out.getCa hca hch);clear hca hch;go_wp2_with fail;go_ret2;exact ⟨rfl,HT1.out⟩
end Go.Proofs.YtdmhbgpejppbkaaGreat
