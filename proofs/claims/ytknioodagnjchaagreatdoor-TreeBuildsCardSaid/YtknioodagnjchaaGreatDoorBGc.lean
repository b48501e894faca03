/- spare.Take over a shelf's book. shelf: New, begin, Get, Put. shelf: New, Head, Arm. What spare.Give comes to, plain. spare.Give over a shelf's book. Nodes as bytes, plain. -/
import Derived.Test.YtknioodagnjchaaGreatDoorBGb
import Derived.Deep.RegionWith
set_option maxRecDepth 100000
set_option maxHeartbeats 2000000
namespace Go.Proofs.YtknioodagnjchaaGreatDoor
open Go renaming bodyPost_ret->Bt,World->Bx,results->Bz,Calls->BC
open Go.Proofs.Tryz renaming results51->Bv,prog->BB
open Nat renaming le_succ->Bw,le_refl->BA
open Go.Lib renaming hid->Z
open Go.RowKit Go.Maps
structure Hd where
 mode:Int
 pages:Int
 trunk:Int
 spare:Int
 root:Int
 change:Int
def Hd.zero:Hd:=⟨0,0,0,0,0,0⟩
def Hd.cells (h:Hd):Array Value:=#[.int .i64 h.mode,.int .i64 h.pages,.int .i64 h.trunk,.int .i64 h.spare,.int .i64 h.root,.int .u64 h.change]
def Hd.val (h:Hd):Value:=.agg h.cells
def eo (h:Hd):Obj:=.cells #[.int .i64 h.mode,.int .i64 h.pages,.int .i64 h.trunk,.int .i64 h.spare,.int .i64 h.root,.int .u64 h.change] 51 (0,0)
theorem aA {w:Bx} {g:Nat} {h:Hd} (hh:w.heap[g]?=some (eo h)):w.cell? ⟨g,0,none⟩=some (.int .i64 h.mode)/\w.cell? ⟨g,1,none⟩=some (.int .i64 h.pages)/\w.cell? ⟨g,2,none⟩=some (.int .i64 h.trunk)/\
  w.cell? ⟨g,3,none⟩=some (.int .i64 h.spare)/\w.cell? ⟨g,4,none⟩=some (.int .i64 h.root)/\w.cell? ⟨g,5,none⟩=some (.int .u64 h.change)/\g<w.heap.size:=
 ⟨ae hh 0,ae hh 1,ae hh 2,ae hh 3,ae hh 4,ae hh 5,aj hh⟩
theorem ba {w:Bx} {g:Nat} {h:Hd} (hh:w.heap[g]?=some (eo h)):w.frozen? ⟨g,0,none⟩=false/\w.frozen? ⟨g,1,none⟩=false/\w.frozen? ⟨g,2,none⟩=false/\w.frozen? ⟨g,3,none⟩=false/\w.frozen? ⟨g,4,none⟩=false/\w.frozen? ⟨g,5,none⟩=false:=
 ⟨ab hh 0,ab hh 1,ab hh 2,ab hh 3,ab hh 4,ab hh 5⟩
def jU (w:Bx) (g:Nat) (h:Hd):Bx:=(((((w.setCell ⟨g,0,none⟩ (.int .i64 h.mode)).setCell ⟨g,1,none⟩ (.int .i64 h.pages)).setCell ⟨g,2,none⟩ (.int .i64 h.trunk)).setCell ⟨g,3,none⟩ (.int .i64 h.spare)).setCell ⟨g,4,none⟩ (.int .i64 h.root)).setCell ⟨g,5,none⟩ (.int .u64 h.change)
theorem gA {w:Bx} {g:Nat} {h0:Hd} (hh:w.heap[g]?=some (eo h0)) (h:Hd):(jU w g h).heap[g]?=some (eo h):=ai (ai (ai (ai (ai (ai hh 0 _) 1 _) 2 _) 3 _) 4 _) 5 _
theorem cL {S:Nat->Prop} {a w:Bx} {g:Nat} (hc:Ch S a w) (hg:S g) (h:Hd):Ch S a (jU w g h):=
 (((((hc.setCell (p:=⟨g,0,none⟩) hg _).setCell (p:=⟨g,1,none⟩) hg _).setCell (p:=⟨g,2,none⟩) hg _).setCell (p:=⟨g,3,none⟩) hg _).setCell (p:=⟨g,4,none⟩) hg _).setCell (p:=⟨g,5,none⟩) hg _
theorem Own.cap {α:Type} {f:α->List Value} {size:Nat} {e:TypeId} {base:Nat} {w:Bx} {A:Option Addr} {n c:Nat} {xs:List α} (h:Own f size e base w (.slice A n c) xs):n<=c:=by
 rcases h.2 with ⟨hv,h0⟩ | ⟨g,cap,cur,hv,_,_,hn,_⟩
 ·injection hv with _ h1 h2;omega
 ·injection hv with _ h1 h2;omega
theorem Sl.take {α:Type} {f:α->List Value} {size:Nat} {w:Bx} {a:Addr} {n c:Nat} {xs:List α} (h:Sl f size w (.slice (some a) n c) xs) (k:Nat) (hk:k<=xs.length):Sl f size w (.slice (some a) k c) (xs.take k):=by
 obtain ⟨A,c',he,hx⟩:=h;injection he with h1 h2 h3
 subst h1 h3;refine ⟨some a,c,by rw [List.length_take,Nat.min_eq_left hk],fun hne=>?_⟩;obtain ⟨b,off,e1,hlt,hcs⟩:=hx (fun e=>hne (by rw [e];simp));refine ⟨b,off,e1,hlt,fun i x hx j u hu=>hcs i x ?_ j u hu⟩;rw [List.getElem?_take] at hx
 split at hx
 ·exact hx
 ·cases hx
theorem mt {t:Tk} (h:bX t=false) (k:Nat):bX ⟨t.next,t.list.take k⟩=false:=by
 unfold bX at h ⊢;rw [Bool.or_eq_false_iff,Bool.or_eq_false_iff] at h ⊢;obtain ⟨⟨h1,h2⟩,h3⟩:=h;refine ⟨⟨h1,?_⟩,?_⟩
 ·simp at h2 ⊢;omega
 ·rw [List.any_eq_false] at h3 ⊢;exact fun x hx=>h3 x (List.mem_of_mem_take hx)
theorem hZ {l:List UInt8} (h:ef l=true):bX (dB l)=false:=by unfold ef at h;simp at h;exact h.1
structure Taken where
 n:Int
 h:Hd
 e:Int
 B:Int->List UInt8
def eb (B:Int->List UInt8) (e:Int):Taken:=⟨0,Hd.zero,e,B⟩
def fS (t:Tk) (pages:Int):Bool:=decide (pages<=t.next) || (decide (0<t.list.length) && decide (pages<=t.list.getD (t.list.length - 1) 0))
def bH (h:Hd) (B:Int->List UInt8):Taken:=
 if h.spare=0 then if 4096<=h.pages then eb B 22 else ⟨h.pages,{ h with pages:=h.pages+1 },0,B⟩
 else if ef (B h.trunk)=false then eb B 30
 else
  let t:=dB (B h.trunk)
  if fS t h.pages then eb B 30
  else if 0<t.list.length then ⟨t.list.getD (t.list.length - 1) 0,{ h with spare:=h.spare - 1 },0,bN B h.trunk (aK (gD ⟨t.next,t.list.take (t.list.length - 1)⟩))⟩
  else if ((t.next == 0) != (h.spare == 1)) then eb B 30
  else ⟨h.trunk,{ h with trunk:=t.next,spare:=h.spare - 1 },0,B⟩
structure Hd.Ok (h:Hd):Prop where
 p1:1<=h.pages
 p2:h.pages<=4096
 t0:0<=h.trunk
 t1:h.trunk<4096
 s0:0<=h.spare
 s1:h.spare<=4096
theorem cN {w:Bx} {g:Nat} {o:Obj} (h:w.heap[g]?=some o) {a:Addr} (hn:a.block≠g) (u:Value):(w.setCell a u).heap[g]?=some o:=(Below.heap_setCell _ _ _ _ (fun e=>hn e.symm)).trans h
theorem dF {w w1:Bx} {gm rx:Nat} {B:Int->List UInt8} {h0:Hd} (hw:Below w.heap.size w w1) (hb:BookIs w1 gm B) (hr:w1.heap[rx]?=some (eo h0)) (hrx:w.heap.size<=rx) (hg:gm<w.heap.size) (h:Hd):
  (jU w1 rx h).heap[rx]?=some (eo h)/\BookIs (jU w1 rx h) gm B/\Ch (fun k=>k=gm) w (jU w1 rx h):=
 ⟨gA hr h,hb.ch (cL (Ch.refl (fun j=>j=rx) w1) rfl h) (by omega),(Ch.zK hw).then (cL (Ch.refl (fun j=>j=rx) w1) rfl h) (fun i e=>.inr (by omega))⟩
theorem jr {w w1:Bx} {gm rx:Nat} {B:Int->List UInt8} {h0:Hd} (hw:Ch (fun k=>k=gm) w w1) (hb:BookIs w1 gm B) (hr:w1.heap[rx]?=some (eo h0)) (hrx:w.heap.size<=rx) (hg:gm<w.heap.size) (h:Hd):
  (jU w1 rx h).heap[rx]?=some (eo h)/\BookIs (jU w1 rx h) gm B/\Ch (fun k=>k=gm) w (jU w1 rx h):=
 ⟨gA hr h,hb.ch (cL (Ch.refl (fun j=>j=rx) w1) rfl h) (by omega),hw.then (cL (Ch.refl (fun j=>j=rx) w1) rfl h) (fun i e=>.inr (by omega))⟩
theorem fD (h:Hd) (gm:Nat) (B:Int->List UInt8) (w:Bx) (hb:BookIs w gm B) (hl:∀ n,(B n).length=232) (hk:h.Ok):
  BC BB 51 #[.agg #[.int .i64 h.mode,.int .i64 h.pages,.int .i64 h.trunk,.int .i64 h.spare,.int .i64 h.root,.int .u64 h.change],.iface 91 (.map (some gm))] w
   fun e w'=>e=.returned (.tuple #[.int .i64 (bH h B).n,(bH h B).h.val,.int .i64 (bH h B).e])/\BookIs w' gm (bH h B).B/\Ch (fun k=>k=gm) w w':=by
 have HH:=Z hb;have hgm:=hb.lt;clear hb;obtain ⟨hm,hp,ht,hs,hr,hc⟩:=h;obtain ⟨k1,k2,k3,k4,k5,k6⟩:=hk;simp only at k1 k2 k3 k4 k5 k6;go_enter Tryz.func51,Tryz.ntmps51;go_upto_region 1 with fail
 have HX1:=Z (am (ag (w0:=w) (g:=w.heap.size) (o:=eo ⟨hm,hp,ht,hs,hr,hc⟩) rfl) (eo Hd.zero));have HR1:=Z (ag (w0:=w.alloc (eo ⟨hm,hp,ht,hs,hr,hc⟩)) (g:=w.heap.size+1) (o:=eo Hd.zero) (by simp));have HW1:=Z (((Below.refl _ w).alloc (BA _) (eo ⟨hm,hp,ht,hs,hr,hc⟩)).alloc (by simp) (eo Hd.zero));have HH1:=Z (HH.out.ch (Ch.zK (S:=fun _=>False) HW1.out) id);generalize hw1:(w.alloc (.cells #[.int .i64 hm,.int .i64 hp,.int .i64 ht,.int .i64 hs,.int .i64 hr,.int .u64 hc] 51)).alloc (.cells #[.int .i64 0,.int .i64 0,.int .i64 0,.int .i64 0,.int .i64 0,.int .u64 0] 51)=w1 at *;have hw2:(w.alloc (eo ⟨hm,hp,ht,hs,hr,hc⟩)).alloc (eo Hd.zero)=w1:=hw1;rw [hw2] at HX1 HR1 HW1 HH1;clear hw1 hw2;obtain ⟨a0,a1,a2,a3,a4,a5,a6⟩:=aA HX1.out;obtain ⟨b0,b1,b2,b3,b4,b5⟩:=ba HX1.out;obtain ⟨c0,c1,c2,c3,c4,c5,c6⟩:=aA HR1.out;obtain ⟨d0,d1,d2,d3,d4,d5⟩:=ba HR1.out;simp only [Hd.zero] at a0 a1 a2 a3 a4 a5 c0 c1 c2 c3 c4 c5;by_cases h0:hs=0
 ·subst h0;by_cases hp4:4096<=hp
  ·have HT:=Z (show bH ⟨hm,hp,ht,0,hr,hc⟩ B=eb B 22 by simp [bH,hp4]);go_wp2_with fail;have HF:=Z (dF HW1.out HH1.out HR1.out (Bw _) (by omega) ⟨0,0,0,0,0,0⟩);obtain ⟨q0,q1,q2,q3,q4,q5,q6⟩:=aA HF.out.1;generalize hwf:jU (w1) (w.heap.size+1) ⟨0,0,0,0,0,0⟩=wf at *;have hwf2:((((((w1).setCell ⟨w.heap.size+1,0,none⟩ (.int .i64 (0))).setCell ⟨w.heap.size+1,1,none⟩ (.int .i64 (0))).setCell ⟨w.heap.size+1,2,none⟩ (.int .i64 (0))).setCell ⟨w.heap.size+1,3,none⟩ (.int .i64 (0))).setCell ⟨w.heap.size+1,4,none⟩ (.int .i64 (0))).setCell ⟨w.heap.size+1,5,none⟩ (.int .u64 (0))=wf:=hwf;rw [hwf2];exact Bt (v:=.tuple #[.int .i64 (0),.agg #[.int .i64 (0),.int .i64 (0),.int .i64 (0),.int .i64 (0),.int .i64 (0),.int .u64 (0)],.int .i64 (22)]) (by simp [Bz,Bv,go_sem,q0,q1,q2,q3,q4,q5]) rfl ⟨by rw [HT.out];rfl,by rw [HT.out];exact HF.out.2.1.block rfl,⟨HF.out.2.2.os,HF.out.2.2.tape,HF.out.2.2.output,HF.out.2.2.size,HF.out.2.2.block⟩⟩
  ·have HT:=Z (show bH ⟨hm,hp,ht,0,hr,hc⟩ B=⟨hp,⟨hm,hp+1,ht,0,hr,hc⟩,0,B⟩ by simp [bH,hp4]);have hp5:hp<4096:=by omega
   go_wp2_with fail;go_region
   all_goals
    go_wp2_with fail;have HF:=Z (dF (HW1.out.setCell (p:=⟨w.heap.size,1,none⟩) (BA _) (.int .i64 (hp+1))) (HH1.out.ch ((Ch.refl (fun j=>j=w.heap.size) w1).setCell (p:=⟨w.heap.size,1,none⟩) rfl (.int .i64 (hp+1))) (by omega)) (cN HR1.out (a:=⟨w.heap.size,1,none⟩) (by simp) (.int .i64 (hp+1))) (Bw _) (by omega) ⟨hm,hp+1,ht,0,hr,hc⟩);obtain ⟨q0,q1,q2,q3,q4,q5,q6⟩:=aA HF.out.1;generalize hwf:jU (w1.setCell ⟨w.heap.size,1,none⟩ (.int .i64 (hp+1))) (w.heap.size+1) ⟨hm,hp+1,ht,0,hr,hc⟩=wf at *;have hwf2:((((((w1.setCell ⟨w.heap.size,1,none⟩ (.int .i64 (hp+1))).setCell ⟨w.heap.size+1,0,none⟩ (.int .i64 (hm))).setCell ⟨w.heap.size+1,1,none⟩ (.int .i64 (hp+1))).setCell ⟨w.heap.size+1,2,none⟩ (.int .i64 (ht))).setCell ⟨w.heap.size+1,3,none⟩ (.int .i64 (0))).setCell ⟨w.heap.size+1,4,none⟩ (.int .i64 (hr))).setCell ⟨w.heap.size+1,5,none⟩ (.int .u64 (hc))=wf:=hwf;rw [hwf2];exact Bt (v:=.tuple #[.int .i64 (hp),.agg #[.int .i64 (hm),.int .i64 (hp+1),.int .i64 (ht),.int .i64 (0),.int .i64 (hr),.int .u64 (hc)],.int .i64 (0)]) (by simp [Bz,Bv,go_sem,q0,q1,q2,q3,q4,q5]) rfl ⟨by rw [HT.out];rfl,by rw [HT.out];exact HF.out.2.1.block rfl,⟨HF.out.2.2.os,HF.out.2.2.tape,HF.out.2.2.output,HF.out.2.2.size,HF.out.2.2.block⟩⟩
 ·have h01:(hs == 0)=false:=by simpa using h0
  have hs2:¬ hs=0:=h0;go_wp2_with fail;refine (nY ht gm B w1 HH1.out (lP k3 k4) (hl ht)).mono ?_;obtain ⟨⟨tn,tl⟩,hT⟩:∃ T,eZ (B ht)=T:=⟨_,rfl⟩;obtain ⟨te,hte⟩:∃ te,kG (B ht)=te:=⟨_,rfl⟩;rw [hT,hte];have HTT:=Z hT;have HTE:=Z hte;clear hT hte;rintro e w2 ⟨v,rfl,⟨lv,rfl,ho⟩,hb⟩;simp only at ho;have hgb:w1.heap.size<=w2.heap.size:=hb.size;obtain ⟨A,c,rfl⟩:=Sl.zM (ho.sl ax);have HX3:=Z (am (af HX1.out hb) (.cells #[.int .i64 tn,.slice A tl.length c] 167));have HR3:=Z (am (af HR1.out hb) (.cells #[.int .i64 tn,.slice A tl.length c] 167));have HW2:=HW1.out.trans (hb.mono HW1.out.size);have HW3:=Z (HW2.alloc HW2.size (.cells #[.int .i64 tn,.slice A tl.length c] 167));have HH3:=Z ((HH1.out.ch (Ch.zK (S:=fun _=>False) hb) id).ch (Ch.alloc (Ch.refl (fun _=>False) w2) (.cells #[.int .i64 tn,.slice A tl.length c] 167)) id);have HO3:=Z (ho.alloc (.cells #[.int .i64 tn,.slice A tl.length c] 167));have HG3:=Z (ag (w0:=w2) (g:=w2.heap.size) (o:=.cells #[.int .i64 tn,.slice A tl.length c] 167) rfl);have hg2:w.heap.size+1<w2.heap.size:=by have:=aj HR1.out;omega
  clear hb ho HW2 a0 a1 a2 a3 a4 a5 b0 b1 b2 b3 b4 b5 c0 c1 c2 c3 c4 c5 d0 d1 d2 d3 d4 d5;go_upto_region 7 with fail
  generalize w2.alloc (.cells #[.int .i64 tn,.slice A tl.length c] 167)=w3 at *;generalize w2.heap.size=g2 at *;obtain ⟨a0,a1,a2,a3,a4,a5,a7⟩:=aA HX3.out;obtain ⟨b0,b1,b2,b3,b4,b5⟩:=ba HX3.out;obtain ⟨c0,c1,c2,c3,c4,c5,c7⟩:=aA HR3.out;obtain ⟨d0,d1,d2,d3,d4,d5⟩:=ba HR3.out;obtain ⟨t0,t1,t2,t3,t4⟩:=eM HG3.out;simp only [Hd.zero] at a0 a1 a2 a3 a4 a5 c0 c1 c2 c3 c4 c5;cases hd:ef (B ht)
  ·have HT:=Z (show bH ⟨hm,hp,ht,hs,hr,hc⟩ B=eb B 30 by simp [bH,h0,hd]);obtain rfl:te=30:=by rw [<- HTE.out];simp [kG,hd]
   clear HTE;go_wp2_with fail;have HF:=Z (dF HW3.out HH3.out HR3.out (Bw _) (by omega) ⟨0,0,0,0,0,0⟩);obtain ⟨q0,q1,q2,q3,q4,q5,q6⟩:=aA HF.out.1;generalize hwf:jU (w3) (w.heap.size+1) ⟨0,0,0,0,0,0⟩=wf at *;have hwf2:((((((w3).setCell ⟨w.heap.size+1,0,none⟩ (.int .i64 (0))).setCell ⟨w.heap.size+1,1,none⟩ (.int .i64 (0))).setCell ⟨w.heap.size+1,2,none⟩ (.int .i64 (0))).setCell ⟨w.heap.size+1,3,none⟩ (.int .i64 (0))).setCell ⟨w.heap.size+1,4,none⟩ (.int .i64 (0))).setCell ⟨w.heap.size+1,5,none⟩ (.int .u64 (0))=wf:=hwf;rw [hwf2];exact Bt (v:=.tuple #[.int .i64 (0),.agg #[.int .i64 (0),.int .i64 (0),.int .i64 (0),.int .i64 (0),.int .i64 (0),.int .u64 (0)],.int .i64 (30)]) (by simp [Bz,Bv,go_sem,q0,q1,q2,q3,q4,q5]) rfl ⟨by rw [HT.out];rfl,by rw [HT.out];exact HF.out.2.1.block rfl,⟨HF.out.2.2.os,HF.out.2.2.tape,HF.out.2.2.output,HF.out.2.2.size,HF.out.2.2.block⟩⟩
  ·obtain rfl:te=0:=by rw [<- HTE.out];simp [kG,hd]
   have HDP:=Z (show dB (B ht)=⟨tn,tl⟩ by rw [<- HTT.out];simp [eZ,hd]);clear HTE HTT;have HTR:=Z (show bH ⟨hm,hp,ht,hs,hr,hc⟩ B=if fS ⟨tn,tl⟩ hp then eb B 30 else if 0<tl.length then ⟨tl.getD (tl.length - 1) 0,⟨hm,hp,ht,hs - 1,hr,hc⟩,0,bN B ht (aK (gD ⟨tn,tl.take (tl.length - 1)⟩))⟩ else if ((tn == 0) != (hs == 1)) then eb B 30 else ⟨ht,⟨hm,hp,tn,hs - 1,hr,hc⟩,0,B⟩ by simp only [bH,h0,hd,HDP.out];rfl);have HBD:=Z (show bX ⟨tn,tl⟩=false by have:=hZ hd;rw [HDP.out] at this;exact this);by_cases h1:hp<=tn
   ·have HT:=Z (show bH ⟨hm,hp,ht,hs,hr,hc⟩ B=eb B 30 by rw [HTR.out,if_pos (by simp [fS,h1])]);have h1b:decide (hp<=tn)=true:=decide_eq_true h1;go_upto_region 11 with fail
    go_region
    all_goals
     go_wp2_with fail;have HF:=Z (dF HW3.out HH3.out HR3.out (Bw _) (by omega) ⟨0,0,0,0,0,0⟩);obtain ⟨q0,q1,q2,q3,q4,q5,q6⟩:=aA HF.out.1;generalize hwf:jU (w3) (w.heap.size+1) ⟨0,0,0,0,0,0⟩=wf at *;have hwf2:((((((w3).setCell ⟨w.heap.size+1,0,none⟩ (.int .i64 (0))).setCell ⟨w.heap.size+1,1,none⟩ (.int .i64 (0))).setCell ⟨w.heap.size+1,2,none⟩ (.int .i64 (0))).setCell ⟨w.heap.size+1,3,none⟩ (.int .i64 (0))).setCell ⟨w.heap.size+1,4,none⟩ (.int .i64 (0))).setCell ⟨w.heap.size+1,5,none⟩ (.int .u64 (0))=wf:=hwf;rw [hwf2];exact Bt (v:=.tuple #[.int .i64 (0),.agg #[.int .i64 (0),.int .i64 (0),.int .i64 (0),.int .i64 (0),.int .i64 (0),.int .u64 (0)],.int .i64 (30)]) (by simp [Bz,Bv,go_sem,q0,q1,q2,q3,q4,q5]) rfl ⟨by rw [HT.out];rfl,by rw [HT.out];exact HF.out.2.1.block rfl,⟨HF.out.2.2.os,HF.out.2.2.tape,HF.out.2.2.output,HF.out.2.2.size,HF.out.2.2.block⟩⟩
   ·have h1b:decide (hp<=tn)=false:=decide_eq_false h1;have h1c:tn<hp:=by omega
    rcases Nat.eq_zero_or_pos tl.length with hz | hz
    ·have htl:tl=[]:=List.length_eq_zero_iff.1 hz;subst htl;rw [if_neg (by simp [fS,h1]),if_neg (by simp)] at HTR;go_upto_region 11 with fail
     go_region
     all_goals
      have hs1:(1:Int)<=hs:=by omega
      have HW4:=Z (HW3.out.setCell (p:=⟨w.heap.size,2,none⟩) (BA _) (.int .i64 tn));have HH4:=Z (HH3.out.ch ((Ch.refl (fun j=>j=w.heap.size) w3).setCell (p:=⟨w.heap.size,2,none⟩) rfl (.int .i64 tn)) (by omega));have HR4:=Z (cN HR3.out (a:=⟨w.heap.size,2,none⟩) (by simp) (.int .i64 tn));have HW5:=Z (HW4.out.setCell (p:=⟨w.heap.size,3,none⟩) (BA _) (.int .i64 (hs - 1)));have HH5:=Z (HH4.out.ch ((Ch.refl (fun j=>j=w.heap.size) _).setCell (p:=⟨w.heap.size,3,none⟩) rfl (.int .i64 (hs - 1))) (by omega));have HR5:=Z (cN HR4.out (a:=⟨w.heap.size,3,none⟩) (by simp) (.int .i64 (hs - 1)));rcases Bool.eq_false_or_eq_true (tn == 0) with g1 | g1 <;> rcases Bool.eq_false_or_eq_true (hs == 1) with g3 | g3
      ·have HT:=Z (show bH ⟨hm,hp,ht,hs,hr,hc⟩ B=⟨ht,⟨hm,hp,tn,hs - 1,hr,hc⟩,0,B⟩ by rw [HTR.out,g1,g3];simp);go_wp2_with fail;go_region
       all_goals
        go_wp2_with fail;have HF:=Z (dF HW5.out HH5.out HR5.out (Bw _) (by omega) ⟨hm,hp,tn,hs - 1,hr,hc⟩);obtain ⟨q0,q1,q2,q3,q4,q5,q6⟩:=aA HF.out.1;generalize hwf:jU ((w3.setCell ⟨w.heap.size,2,none⟩ (.int .i64 tn)).setCell ⟨w.heap.size,3,none⟩ (.int .i64 (hs - 1))) (w.heap.size+1) ⟨hm,hp,tn,hs - 1,hr,hc⟩=wf at *;have hwf2:(((((((w3.setCell ⟨w.heap.size,2,none⟩ (.int .i64 tn)).setCell ⟨w.heap.size,3,none⟩ (.int .i64 (hs - 1))).setCell ⟨w.heap.size+1,0,none⟩ (.int .i64 (hm))).setCell ⟨w.heap.size+1,1,none⟩ (.int .i64 (hp))).setCell ⟨w.heap.size+1,2,none⟩ (.int .i64 (tn))).setCell ⟨w.heap.size+1,3,none⟩ (.int .i64 (hs - 1))).setCell ⟨w.heap.size+1,4,none⟩ (.int .i64 (hr))).setCell ⟨w.heap.size+1,5,none⟩ (.int .u64 (hc))=wf:=hwf;rw [hwf2];exact Bt (v:=.tuple #[.int .i64 (ht),.agg #[.int .i64 (hm),.int .i64 (hp),.int .i64 (tn),.int .i64 (hs - 1),.int .i64 (hr),.int .u64 (hc)],.int .i64 (0)]) (by simp [Bz,Bv,go_sem,q0,q1,q2,q3,q4,q5]) rfl ⟨by rw [HT.out];rfl,by rw [HT.out];exact HF.out.2.1.block rfl,⟨HF.out.2.2.os,HF.out.2.2.tape,HF.out.2.2.output,HF.out.2.2.size,HF.out.2.2.block⟩⟩
      ·have HT:=Z (show bH ⟨hm,hp,ht,hs,hr,hc⟩ B=eb B 30 by rw [HTR.out,g1,g3];simp);go_wp2_with fail;have HF:=Z (dF HW4.out HH4.out HR4.out (Bw _) (by omega) ⟨0,0,0,0,0,0⟩);obtain ⟨q0,q1,q2,q3,q4,q5,q6⟩:=aA HF.out.1;generalize hwf:jU (w3.setCell ⟨w.heap.size,2,none⟩ (.int .i64 tn)) (w.heap.size+1) ⟨0,0,0,0,0,0⟩=wf at *;have hwf2:((((((w3.setCell ⟨w.heap.size,2,none⟩ (.int .i64 tn)).setCell ⟨w.heap.size+1,0,none⟩ (.int .i64 (0))).setCell ⟨w.heap.size+1,1,none⟩ (.int .i64 (0))).setCell ⟨w.heap.size+1,2,none⟩ (.int .i64 (0))).setCell ⟨w.heap.size+1,3,none⟩ (.int .i64 (0))).setCell ⟨w.heap.size+1,4,none⟩ (.int .i64 (0))).setCell ⟨w.heap.size+1,5,none⟩ (.int .u64 (0))=wf:=hwf;rw [hwf2];exact Bt (v:=.tuple #[.int .i64 (0),.agg #[.int .i64 (0),.int .i64 (0),.int .i64 (0),.int .i64 (0),.int .i64 (0),.int .u64 (0)],.int .i64 (30)]) (by simp [Bz,Bv,go_sem,q0,q1,q2,q3,q4,q5]) rfl ⟨by rw [HT.out];rfl,by rw [HT.out];exact HF.out.2.1.block rfl,⟨HF.out.2.2.os,HF.out.2.2.tape,HF.out.2.2.output,HF.out.2.2.size,HF.out.2.2.block⟩⟩
      ·have HT:=Z (show bH ⟨hm,hp,ht,hs,hr,hc⟩ B=eb B 30 by rw [HTR.out,g1,g3];simp);go_wp2_with fail;have HF:=Z (dF HW4.out HH4.out HR4.out (Bw _) (by omega) ⟨0,0,0,0,0,0⟩);obtain ⟨q0,q1,q2,q3,q4,q5,q6⟩:=aA HF.out.1;generalize hwf:jU (w3.setCell ⟨w.heap.size,2,none⟩ (.int .i64 tn)) (w.heap.size+1) ⟨0,0,0,0,0,0⟩=wf at *;have hwf2:((((((w3.setCell ⟨w.heap.size,2,none⟩ (.int .i64 tn)).setCell ⟨w.heap.size+1,0,none⟩ (.int .i64 (0))).setCell ⟨w.heap.size+1,1,none⟩ (.int .i64 (0))).setCell ⟨w.heap.size+1,2,none⟩ (.int .i64 (0))).setCell ⟨w.heap.size+1,3,none⟩ (.int .i64 (0))).setCell ⟨w.heap.size+1,4,none⟩ (.int .i64 (0))).setCell ⟨w.heap.size+1,5,none⟩ (.int .u64 (0))=wf:=hwf;rw [hwf2];exact Bt (v:=.tuple #[.int .i64 (0),.agg #[.int .i64 (0),.int .i64 (0),.int .i64 (0),.int .i64 (0),.int .i64 (0),.int .u64 (0)],.int .i64 (30)]) (by simp [Bz,Bv,go_sem,q0,q1,q2,q3,q4,q5]) rfl ⟨by rw [HT.out];rfl,by rw [HT.out];exact HF.out.2.1.block rfl,⟨HF.out.2.2.os,HF.out.2.2.tape,HF.out.2.2.output,HF.out.2.2.size,HF.out.2.2.block⟩⟩
      ·have HT:=Z (show bH ⟨hm,hp,ht,hs,hr,hc⟩ B=⟨ht,⟨hm,hp,tn,hs - 1,hr,hc⟩,0,B⟩ by rw [HTR.out,g1,g3];simp);go_wp2_with fail;go_region
       all_goals
        go_wp2_with fail;have HF:=Z (dF HW5.out HH5.out HR5.out (Bw _) (by omega) ⟨hm,hp,tn,hs - 1,hr,hc⟩);obtain ⟨q0,q1,q2,q3,q4,q5,q6⟩:=aA HF.out.1;generalize hwf:jU ((w3.setCell ⟨w.heap.size,2,none⟩ (.int .i64 tn)).setCell ⟨w.heap.size,3,none⟩ (.int .i64 (hs - 1))) (w.heap.size+1) ⟨hm,hp,tn,hs - 1,hr,hc⟩=wf at *;have hwf2:(((((((w3.setCell ⟨w.heap.size,2,none⟩ (.int .i64 tn)).setCell ⟨w.heap.size,3,none⟩ (.int .i64 (hs - 1))).setCell ⟨w.heap.size+1,0,none⟩ (.int .i64 (hm))).setCell ⟨w.heap.size+1,1,none⟩ (.int .i64 (hp))).setCell ⟨w.heap.size+1,2,none⟩ (.int .i64 (tn))).setCell ⟨w.heap.size+1,3,none⟩ (.int .i64 (hs - 1))).setCell ⟨w.heap.size+1,4,none⟩ (.int .i64 (hr))).setCell ⟨w.heap.size+1,5,none⟩ (.int .u64 (hc))=wf:=hwf;rw [hwf2];exact Bt (v:=.tuple #[.int .i64 (ht),.agg #[.int .i64 (hm),.int .i64 (hp),.int .i64 (tn),.int .i64 (hs - 1),.int .i64 (hr),.int .u64 (hc)],.int .i64 (0)]) (by simp [Bz,Bv,go_sem,q0,q1,q2,q3,q4,q5]) rfl ⟨by rw [HT.out];rfl,by rw [HT.out];exact HF.out.2.1.block rfl,⟨HF.out.2.2.os,HF.out.2.2.tape,HF.out.2.2.output,HF.out.2.2.size,HF.out.2.2.block⟩⟩
    ·obtain ⟨m,hm1⟩:∃ m,tl.length=m+1:=⟨tl.length - 1,by omega⟩;have hml:m<tl.length:=by omega
     have hl1:(tl.length:Int) - 1=(m:Int):=by omega
     have hl2:(0:Int)<=(m:Int):=by omega
     have hl2b:decide ((0:Int)<=(m:Int))=true:=decide_eq_true hl2;have hl3:(m:Int)<(tl.length:Int):=by omega
     have hcap:tl.length<=c:=HO3.out.cap;have hl5:(tl.length:Int)<=50:=by have:=(lA HBD.out).2.2.1;simp only at this;omega
     have hl6:(m:Int)<=50:=by omega
     have hl4:(m:Int)<=(c:Int):=by omega
     have HM:=Z (show tl.length - 1=m by omega);obtain ⟨b,off,c',he,hbl,hcs⟩:=(HO3.out.sl ax).zQ hml;injection he with he1 he2 he3
     subst he1 he3;have e0:w3.cell? ⟨b,off+m,none⟩=some (.int .i64 tl[m]):=by simpa using hcs 0 _ rfl
     have HTK:=Z ((HO3.out.sl ax).take m (by omega));have HLE:=Z (show (tl.take m).length<=1000000 by
      have:=(lA HBD.out).2.2.1;simp only at this;rw [List.length_take];omega)
     have HGD:=Z (show tl.getD m 0=tl[m] by simp [hml]);have HB6:=Z (mt HBD.out m);have HPZ:=Z (show decide (0<tl.length)=true from decide_eq_true hz);rw [HM.out,HGD.out] at HTR;rw [if_pos hz] at HTR;clear hcs hm1 hz;generalize tl[m]=x at *;by_cases h2:hp<=x
     ·have HT:=Z (show bH ⟨hm,hp,ht,hs,hr,hc⟩ B=eb B 30 by
       rw [HTR.out,if_pos];unfold fS;simp only [h1b,HPZ.out,HM.out,HGD.out,decide_eq_true h2];rfl)
      have h2b:decide (hp<=x)=true:=decide_eq_true h2;go_upto_region 11 with fail
      go_region
      all_goals
       go_wp2_with fail;have HF:=Z (dF HW3.out HH3.out HR3.out (Bw _) (by omega) ⟨0,0,0,0,0,0⟩);obtain ⟨q0,q1,q2,q3,q4,q5,q6⟩:=aA HF.out.1;generalize hwf:jU (w3) (w.heap.size+1) ⟨0,0,0,0,0,0⟩=wf at *;have hwf2:((((((w3).setCell ⟨w.heap.size+1,0,none⟩ (.int .i64 (0))).setCell ⟨w.heap.size+1,1,none⟩ (.int .i64 (0))).setCell ⟨w.heap.size+1,2,none⟩ (.int .i64 (0))).setCell ⟨w.heap.size+1,3,none⟩ (.int .i64 (0))).setCell ⟨w.heap.size+1,4,none⟩ (.int .i64 (0))).setCell ⟨w.heap.size+1,5,none⟩ (.int .u64 (0))=wf:=hwf;rw [hwf2];exact Bt (v:=.tuple #[.int .i64 (0),.agg #[.int .i64 (0),.int .i64 (0),.int .i64 (0),.int .i64 (0),.int .i64 (0),.int .u64 (0)],.int .i64 (30)]) (by simp [Bz,Bv,go_sem,q0,q1,q2,q3,q4,q5]) rfl ⟨by rw [HT.out];rfl,by rw [HT.out];exact HF.out.2.1.block rfl,⟨HF.out.2.2.os,HF.out.2.2.tape,HF.out.2.2.output,HF.out.2.2.size,HF.out.2.2.block⟩⟩
     ·have HT:=Z (show bH ⟨hm,hp,ht,hs,hr,hc⟩ B=⟨x,⟨hm,hp,ht,hs - 1,hr,hc⟩,0,bN B ht (aK (gD ⟨tn,tl.take m⟩))⟩ by
       rw [HTR.out,if_neg];unfold fS;simp only [h1b,HPZ.out,HM.out,HGD.out,decide_eq_false h2];simp)
      have h2b:decide (hp<=x)=false:=decide_eq_false h2;have hs1:(1:Int)<=hs:=by omega
      go_upto_region 11 with fail
      go_region
      all_goals
       go_upto_region 15 with fail
       have HBW:=Z (show Below w3.heap.size w3 w3.drew.drew from ((Below.refl _ w3).drew).drew);have HLB:=Z (show lM ⟨tn,tl.take m⟩ B ht=bN B ht (aK (gD ⟨tn,tl.take m⟩))/\lL ⟨tn,tl.take m⟩=0 by unfold lM lL;rw [HB6.out];exact ⟨rfl,rfl⟩);go_cut [8] from 70 to 80 (fun sv wc=>sv=.int .i64 0/\BookIs wc gm (bN B ht (aK (gD ⟨tn,tl.take m⟩)))/\wc.heap[w.heap.size]?=some (eo ⟨hm,hp,ht,hs,hr,hc⟩)/\wc.heap[w.heap.size+1]?=some (eo Hd.zero)/\Ch (fun k=>k=gm) w wc)
       case first=>
        go_region_with (go_at_call 103;refine (lW ht ⟨tn,tl.take m⟩ _ gm B w3.drew.drew (HH3.out.block rfl) k3 k4 (HTK.out.keep HBW.out) HLE.out).mono ?_;rintro e w5 ⟨rfl,hbk,hch⟩)
        all_goals
         have HM5:=Z (show BookIs w5 gm (bN B ht (aK (gD ⟨tn,tl.take m⟩)))/\w5.heap[w.heap.size]?=some (eo ⟨hm,hp,ht,hs,hr,hc⟩)/\w5.heap[w.heap.size+1]?=some (eo Hd.zero)/\Ch (fun k=>k=gm) w w5 from
          ⟨by rw [<- HLB.out.1];exact hbk,hch.keep (show w3.drew.drew.heap[w.heap.size]?=_ from HX3.out) (by omega),hch.keep (show w3.drew.drew.heap[w.heap.size+1]?=_ from HR3.out) (by omega),((Ch.zK (S:=fun k=>k=gm) HW3.out).drew.drew).trans hch⟩)
         rw [HLB.out.2];clear hbk hch;go_wp2_with fail;go_meet
         case rel=>exact ⟨rfl,HM5.out⟩
       case rest=>
        obtain ⟨rfl,hbk,hx6,hr6,hc6⟩:=hcut;have HBK:=Z hbk;have HR6:=Z hr6;have HC6:=Z hc6;have HX6:=Z hx6;clear hbk hr6 hc6 hx6 a0 a1 a2 a3 a4 a5 b0 b1 b2 b3 b4 b5 c0 c1 c2 c3 c4 c5 d0 d1 d2 d3 d4 d5 t0 t1 t2 t3 t4 e0;obtain ⟨a0,a1,a2,a3,a4,a5,a7⟩:=aA HX6.out;obtain ⟨b0,b1,b2,b3,b4,b5⟩:=ba HX6.out;obtain ⟨c0,c1,c2,c3,c4,c5,c7⟩:=aA HR6.out;obtain ⟨d0,d1,d2,d3,d4,d5⟩:=ba HR6.out;simp only [Hd.zero] at a0 a1 a2 a3 a4 a5 c0 c1 c2 c3 c4 c5;go_wp2_with fail;go_region
        all_goals
         go_wp2_with fail;have HF:=Z (jr (HC6.out.then ((Ch.refl (fun j=>j=w.heap.size) wc).setCell (p:=⟨w.heap.size,3,none⟩) rfl (.int .i64 (hs - 1))) (fun i e=>.inr (by omega))) (HBK.out.ch ((Ch.refl (fun j=>j=w.heap.size) wc).setCell (p:=⟨w.heap.size,3,none⟩) rfl (.int .i64 (hs - 1))) (by omega)) (cN HR6.out (a:=⟨w.heap.size,3,none⟩) (by simp) (.int .i64 (hs - 1))) (Bw _) (by omega) ⟨hm,hp,ht,hs - 1,hr,hc⟩);obtain ⟨q0,q1,q2,q3,q4,q5,q6⟩:=aA HF.out.1;generalize hwf:jU (wc.setCell ⟨w.heap.size,3,none⟩ (.int .i64 (hs - 1))) (w.heap.size+1) ⟨hm,hp,ht,hs - 1,hr,hc⟩=wf at *;have hwf2:((((((wc.setCell ⟨w.heap.size,3,none⟩ (.int .i64 (hs - 1))).setCell ⟨w.heap.size+1,0,none⟩ (.int .i64 (hm))).setCell ⟨w.heap.size+1,1,none⟩ (.int .i64 (hp))).setCell ⟨w.heap.size+1,2,none⟩ (.int .i64 (ht))).setCell ⟨w.heap.size+1,3,none⟩ (.int .i64 (hs - 1))).setCell ⟨w.heap.size+1,4,none⟩ (.int .i64 (hr))).setCell ⟨w.heap.size+1,5,none⟩ (.int .u64 (hc))=wf:=hwf;rw [hwf2];exact Bt (v:=.tuple #[.int .i64 (x),.agg #[.int .i64 (hm),.int .i64 (hp),.int .i64 (ht),.int .i64 (hs - 1),.int .i64 (hr),.int .u64 (hc)],.int .i64 (0)]) (by simp [Bz,Bv,go_sem,q0,q1,q2,q3,q4,q5]) rfl ⟨by rw [HT.out];rfl,by rw [HT.out];exact HF.out.2.1.block rfl,⟨HF.out.2.2.os,HF.out.2.2.tape,HF.out.2.2.output,HF.out.2.2.size,HF.out.2.2.block⟩⟩
structure Sf where
 lim:Int
 h:Hd
 B:Int->List UInt8
 left:Int
def pq (s:Sf) (gm:Nat):Obj:=.cells #[.int .i64 s.lim,.int .i64 s.h.mode,.int .i64 s.h.pages,.int .i64 s.h.trunk,.int .i64 s.h.spare,.int .i64 s.h.root,.int .u64 s.h.change,.map (some gm),.int .i64 s.left] 93 (0,0)
structure Sf.Ok (s:Sf):Prop where
 h:s.h.Ok
 l:∀ n,(s.B n).length=232
 l0:-1<=s.left
 l1:s.left<=1000000000
structure ShIs (w:Bx) (gs gm:Nat) (s:Sf):Prop where
 blk:w.heap[gs]?=some (pq s gm)
 book:BookIs w gm s.B
 ne:gm≠gs
 ok:s.Ok
theorem kh {w:Bx} {g gm:Nat} {s:Sf} (hh:w.heap[g]?=some (pq s gm)):w.cell? ⟨g,0,none⟩=some (.int .i64 s.lim)/\w.cell? ⟨g,1,none⟩=some (.int .i64 s.h.mode)/\w.cell? ⟨g,2,none⟩=some (.int .i64 s.h.pages)/\w.cell? ⟨g,3,none⟩=some (.int .i64 s.h.trunk)/\
  w.cell? ⟨g,4,none⟩=some (.int .i64 s.h.spare)/\w.cell? ⟨g,5,none⟩=some (.int .i64 s.h.root)/\w.cell? ⟨g,6,none⟩=some (.int .u64 s.h.change)/\w.cell? ⟨g,7,none⟩=some (.map (some gm))/\w.cell? ⟨g,8,none⟩=some (.int .i64 s.left)/\g<w.heap.size/\∀ i,w.frozen? ⟨g,i,none⟩=false:=
 ⟨ae hh 0,ae hh 1,ae hh 2,ae hh 3,ae hh 4,ae hh 5,ae hh 6,ae hh 7,ae hh 8,aj hh,ab hh⟩
theorem ShIs.ch {S:Nat->Prop} {w w':Bx} {gs gm:Nat} {s:Sf} (h:ShIs w gs gm s) (hc:Ch S w w') (h1:¬ S gs) (h2:¬ S gm):ShIs w' gs gm s:=⟨hc.keep h.blk h1,h.book.ch hc h2,h.ne,h.ok⟩
def bF (s:Sf):Sf:=if 0<s.left then { s with left:=s.left - 1 } else s
def bt (s:Sf) (n:Int):Int:=if s.left=0 then 11 else if n<1\/s.h.pages<=n then 21 else 0
theorem jB {s:Sf} (h:s.Ok):(bF s).Ok:=by
 unfold bF
 split
 ·exact ⟨h.h,h.l,by have:=h.l0;simp only;omega,by have:=h.l1;simp only;omega⟩
 ·exact h
theorem sN {w:Bx} {gs gm:Nat} {s:Sf} (h:w.heap[gs]?=some (pq s gm)) (v:Int):(w.setCell ⟨gs,8,none⟩ (.int .i64 v)).heap[gs]?=some (pq { s with left:=v } gm):=ai h 8 _
theorem dV (n:Int) (gs gm:Nat) (s:Sf) (w:Bx) (h:ShIs w gs gm s):
  BC BB 50 #[.pointer (some ⟨gs,0,none⟩),.int .i64 n] w fun e w'=>e=.returned (.int .i64 (bt s n))/\ShIs w' gs gm (bF s)/\Ch (fun k=>k=gs) w w':=by
 have H:=Z h;obtain ⟨a0,a1,a2,a3,a4,a5,a6,a7,a8,a9,a10⟩:=kh h.blk;have b8:=a10 8;have o1:=h.ok.l0;have o2:=h.ok.l1;have HOK:=Z (jB h.ok);clear h a10;go_enter Tryz.func50,Tryz.ntmps50;by_cases h0:s.left=0
 ·have HE:=Z (show bt s n=11/\bF s=s by simp [bt,bF,h0]);rw [h0] at a8;go_wp2_with fail;go_ret;exact ⟨by rw [HE.out.1];rfl,by rw [HE.out.2];exact H.out,Ch.refl _ _⟩
 ·have h01:(s.left == 0)=false:=by simpa using h0
  by_cases hp:0<s.left
  ·have HS:=Z (show bF s={ s with left:=s.left - 1 } by simp [bF,hp]);have HB:=Z (show ShIs (w.setCell ⟨gs,8,none⟩ (.int .i64 (s.left - 1))) gs gm (bF s) from ⟨by rw [HS.out];exact sN H.out.blk _,by rw [HS.out];exact H.out.book.ch ((Ch.refl (fun j=>j=gs) w).setCell (p:=⟨gs,8,none⟩) rfl _) H.out.ne,H.out.ne,HOK.out⟩);have HC:=Z ((Ch.refl (fun j=>j=gs) w).setCell (p:=⟨gs,8,none⟩) rfl (.int .i64 (s.left - 1)));by_cases hn:n<1
   ·have HE:=Z (show bt s n=21 by simp [bt,h0,hn]);go_wp2_with fail;go_ret;exact ⟨by rw [HE.out];rfl,HB.out,HC.out⟩
   ·have hn2:(1:Int)<=n:=by omega
    by_cases hg:s.h.pages<=n
    ·have HE:=Z (show bt s n=21 by simp [bt,h0,hg]);go_wp2_with fail;go_ret;exact ⟨by rw [HE.out];rfl,HB.out,HC.out⟩
    ·have HE:=Z (show bt s n=0 by simp [bt,h0,hn,hg]);have hg2:n<s.h.pages:=by omega
     go_wp2_with fail;go_ret;exact ⟨by rw [HE.out];rfl,HB.out,HC.out⟩
  ·have HS:=Z (show bF s=s by simp [bF,hp]);have hp2:s.left<=0:=by omega
   have HB:=Z (show ShIs w gs gm (bF s) by rw [HS.out];exact H.out);by_cases hn:n<1
   ·have HE:=Z (show bt s n=21 by simp [bt,h0,hn]);go_wp2_with fail;go_ret;exact ⟨by rw [HE.out];rfl,HB.out,Ch.refl _ _⟩
   ·have hn2:(1:Int)<=n:=by omega
    by_cases hg:s.h.pages<=n
    ·have HE:=Z (show bt s n=21 by simp [bt,h0,hg]);go_wp2_with fail;go_ret;exact ⟨by rw [HE.out];rfl,HB.out,Ch.refl _ _⟩
    ·have HE:=Z (show bt s n=0 by simp [bt,h0,hn,hg]);have hg2:n<s.h.pages:=by omega
     go_wp2_with fail;go_ret;exact ⟨by rw [HE.out];rfl,HB.out,Ch.refl _ _⟩
theorem tR {s:Sf} {n:Int} (h:bt s n=0):1<=n/\n<s.h.pages:=by
 unfold bt at h
 split at h
 ·cases h
 ·split at h
  ·cases h
  ·omega
theorem fP (s:Sf):(bF s).B=s.B:=by unfold bF;split <;> rfl
theorem nF (s:Sf):(bF s).h=s.h:=by unfold bF;split <;> rfl
def gQ (s:Sf) (n:Int):List UInt8:=if bt s n=0 then s.B n else []
theorem mD (n:Int) (gs gm:Nat) (s:Sf) (w:Bx) (h:ShIs w gs gm s):
  BC BB 139 #[.pointer (some ⟨gs,0,none⟩),.int .i64 n] w fun e w'=>e=.returned (.tuple #[.string (ap (gQ s n)),.int .i64 (bt s n)])/\ShIs w' gs gm (bF s)/\Ch (fun k=>k=gs) w w':=by
 have HP:=Z h.ok.h.p2;go_enter Tryz.func139,Tryz.ntmps139;go_wp2_with fail;refine (dV n gs gm s w h).mono ?_;rintro e w1 ⟨rfl,hs,hc⟩;have HS:=Z hs;have HC:=Z hc;obtain ⟨-,-,-,-,-,-,-,a7,-,a9,-⟩:=kh hs.blk;clear h hs hc;obtain ⟨be,hbe⟩:∃ be,be=bt s n:=⟨_,rfl⟩;rw [<- hbe];have HBE:=Z hbe;clear hbe;by_cases h0:be=0
 ·obtain ⟨q0,q1⟩:=tR (HBE.out.symm.trans h0);have HV:=Z (show gQ s n=s.B n by unfold gQ;rw [<- HBE.out,if_pos h0]);have HBK:=Z (show BookIs w1 gm s.B from fP s ▸ HS.out.book);subst h0;go_wp2_with fail;refine (lI n gm s.B w1 HBK.out (lP (by omega) (by have:=HP.out;omega))).mono ?_;rintro e w2 ⟨rfl,hb⟩;have HB2:=Z hb;clear hb;go_wp2_with fail;go_ret2;rw [HV.out];exact ⟨by rw [<- HBE.out];rfl,HS.out.ch (Ch.zK (S:=fun _=>False) HB2.out) id id,HC.out.trans (Ch.zK HB2.out)⟩
 ·have hb1:(be == 0)=false:=by simpa using h0
  have HV:=Z (show gQ s n=[] by unfold gQ;rw [<- HBE.out,if_neg h0]);go_wp2_with fail;go_ret2;rw [HV.out];exact ⟨by rw [<- HBE.out];rfl,HS.out,HC.out⟩
def kV (s:Sf) (n:Int) (l:List UInt8):Int:=if bt s n=0 then if l.length=232 then 0 else 1 else bt s n
def kU (s:Sf) (n:Int) (l:List UInt8):Sf:=if bt s n=0/\l.length=232 then { bF s with B:=bN s.B n l } else bF s
theorem cF {B:Int->List UInt8} (h:∀ n,(B n).length=232) {n:Int} {l:List UInt8} (hl:l.length=232):∀ m,(bN B n l m).length=232:=fun m=>by
 unfold bN;split <;> simp [*]
theorem qi (n:Int) (d:ByteArray) (gs gm:Nat) (s:Sf) (w:Bx) (h:ShIs w gs gm s):
  BC BB 19 #[.pointer (some ⟨gs,0,none⟩),.int .i64 n,.string d] w fun e w'=>e=.returned (.int .i64 (kV s n (bs d)))/\ShIs w' gs gm (kU s n (bs d))/\Ch (fun k=>k=gs\/k=gm) w w':=by
 have HP:=Z h.ok.h.p2;have HK:=Z h.ok;have hbs:=gS d;go_enter Tryz.func19,Tryz.ntmps19;go_wp2_with fail;refine (dV n gs gm s w h).mono ?_;rintro e w1 ⟨rfl,hs,hc⟩;have HS:=Z hs;have HC:=Z (hc.mono (S':=fun k=>k=gs\/k=gm) (fun _ _ e=>.inl e));obtain ⟨-,-,-,-,-,-,-,a7,-,a9,-⟩:=kh hs.blk;clear h hs hc;obtain ⟨be,hbe⟩:∃ be,be=bt s n:=⟨_,rfl⟩;rw [<- hbe];have HBE:=Z hbe;clear hbe;by_cases h0:be=0
 ·obtain ⟨q0,q1⟩:=tR (HBE.out.symm.trans h0);have HBK:=Z (show BookIs w1 gm s.B from fP s ▸ HS.out.book);by_cases hl:d.size=232
  ·have HV:=Z (show kV s n (bs d)=0/\kU s n (bs d)={ bF s with B:=bN s.B n (bs d) } by
    unfold kV kU;rw [<- HBE.out,if_pos h0,if_pos (by rw [hbs];exact hl),if_pos ⟨h0,by rw [hbs];exact hl⟩];exact ⟨rfl,rfl⟩)
   have HKN:=Z (show Sf.Ok { bF s with B:=bN s.B n (bs d) } from ⟨(jB HK.out).h,cF HK.out.l (by rw [hbs];exact hl),(jB HK.out).l0,(jB HK.out).l1⟩);have hl2:(d.size:Int)=232:=by omega
   subst h0;go_wp2_with fail;refine (lH n d gm s.B w1 HBK.out (by omega) (by have:=HP.out;omega)).mono ?_;rintro e w2 ⟨rfl,hbk,hch⟩;have HB2:=Z hbk;have HC2:=Z hch;clear hbk hch;go_wp2_with fail;go_ret;refine ⟨by rw [HV.out.1];rfl,?_,HC.out.trans (HC2.out.mono (fun _ _ e=>.inr e))⟩;rw [HV.out.2];exact ⟨HC2.out.keep HS.out.blk (fun e=>HS.out.ne e.symm),HB2.out,HS.out.ne,HKN.out⟩
  ·have HV:=Z (show kV s n (bs d)=1/\kU s n (bs d)=bF s by
    unfold kV kU;rw [<- HBE.out,if_pos h0,if_neg (by rw [hbs];exact hl),if_neg (fun h=>hl (by rw [<- hbs];exact h.2))];exact ⟨rfl,rfl⟩)
   have hl2:((d.size:Int) == 232)=false:=by simp;omega
   subst h0;go_wp2_with fail;go_ret;exact ⟨by rw [HV.out.1];rfl,by rw [HV.out.2];exact HS.out,HC.out⟩
 ·have hb1:(be == 0)=false:=by simpa using h0
  have HV:=Z (show kV s n (bs d)=be/\kU s n (bs d)=bF s by
   unfold kV kU;rw [<- HBE.out,if_neg h0,if_neg (fun h=>h0 h.1)];exact ⟨rfl,rfl⟩)
  go_wp2_with fail;go_ret;exact ⟨by rw [HV.out.1];rfl,by rw [HV.out.2];exact HS.out,HC.out⟩
def freshH:Hd:=⟨1,1,0,0,0,0⟩
def yF (n:Int):Int:=min (max n 1) 4096
def dA (n:Int):Sf:=⟨yF n,freshH,fun _=>blankL,-1⟩
theorem uO:freshH.Ok:=⟨by decide,by decide,by decide,by decide,by decide,by decide⟩
theorem dP:blankL.length=232:=List.length_replicate
theorem tp (n:Int):(dA n).Ok:=⟨uO,fun _=>dP,by show (-1:Int)<= -1;omega,by show (-1:Int)<=1000000000;omega⟩
theorem uN (w:Bx):BC BB 48 #[] w fun e w'=>e=.returned (.agg #[.int .i64 1,.int .i64 1,.int .i64 0,.int .i64 0,.int .i64 0,.int .u64 0])/\Below w.heap.size w w':=by go_enter Tryz.func48,Tryz.ntmps48;go_wp2_with fail;obtain ⟨q0,q1,q2,q3,q4,q5,q6⟩:=aA (ag (w0:=w) (g:=w.heap.size) (o:=eo freshH) rfl);exact Bt (v:=.agg #[.int .i64 1,.int .i64 1,.int .i64 0,.int .i64 0,.int .i64 0,.int .u64 0]) (by simp [Bz,Tryz.results48,go_sem]) rfl ⟨rfl,(Below.refl _ w).alloc (BA _) _⟩
theorem gV (gs gm:Nat) (s:Sf) (w:Bx) (h:ShIs w gs gm s):
  BC BB 29 #[.pointer (some ⟨gs,0,none⟩)] w fun e w'=>e=.returned (.agg #[.int .i64 s.h.mode,.int .i64 s.h.pages,.int .i64 s.h.trunk,.int .i64 s.h.spare,.int .i64 s.h.root,.int .u64 s.h.change])/\Below w.heap.size w w':=by
 obtain ⟨a0,a1,a2,a3,a4,a5,a6,a7,a8,a9,-⟩:=kh h.blk;go_enter Tryz.func29,Tryz.ntmps29;go_wp2_with fail;exact Bt (v:=.agg #[.int .i64 s.h.mode,.int .i64 s.h.pages,.int .i64 s.h.trunk,.int .i64 s.h.spare,.int .i64 s.h.root,.int .u64 s.h.change]) (by simp [Bz,Tryz.results29,go_sem]) rfl ⟨rfl,(Below.refl _ w).alloc (BA _) _⟩
theorem gL (n:Int) (w:Bx):
  BC BB 15 #[.int .i64 n] w fun e w'=>∃ gs gm,e=.returned (.pointer (some ⟨gs,0,none⟩))/\ShIs w' gs gm (dA n)/\w.heap.size<=gs/\w.heap.size<=gm/\Below w.heap.size w w':=by
 go_enter Tryz.func15,Tryz.ntmps15;go_wp2_with fail;refine (uN w).mono ?_;rintro e w1 ⟨rfl,hb⟩;have HB:=Z hb;clear hb;go_wp2_with fail;have HBK:=Z (BookIs.made w1);have HB2:=Z (HB.out.alloc HB.out.size (.map #[] 0));rw [run_makeMap];simp only [Result.andThen];go_wp2_with fail;go_ret;refine ⟨_,w1.heap.size,rfl,⟨ag (by simp),?_,by simp,tp n⟩,?_,HB.out.size,?_⟩
 ·exact HBK.out.ch (Ch.alloc (Ch.refl (fun _=>False) _) _) id
 ·have:=HB.out.size;simp;omega
 ·exact HB2.out.alloc HB2.out.size _
end Go.Proofs.YtknioodagnjchaaGreatDoor
namespace Go.Proofs.YtknioodagnjchaaGreatDoor
structure Given where
 h:Hd
 e:Int
 B:Int->List UInt8
def ix (B:Int->List UInt8) (e:Int):Given:=⟨Hd.zero,e,B⟩
def di (h:Hd) (B:Int->List UInt8) (n:Int):Given:=
 if n<1\/h.pages<=n then ix B 1
 else if h.pages - 1<=h.spare then ix B 30
 else if h.trunk=0 then ⟨{ h with trunk:=n,spare:=h.spare+1 },0,bN B n (aK (gD ⟨0,[]⟩))⟩
 else if ef (B h.trunk)=false then ix B 30
 else if (dB (B h.trunk)).list.length<50 then ⟨{ h with spare:=h.spare+1 },0,bN B h.trunk (aK (gD ⟨(dB (B h.trunk)).next,(dB (B h.trunk)).list ++ [n]⟩))⟩
 else ⟨{ h with trunk:=n,spare:=h.spare+1 },0,bN B n (aK (gD ⟨h.trunk,[]⟩))⟩
end Go.Proofs.YtknioodagnjchaaGreatDoor
namespace Go.Proofs.YtknioodagnjchaaGreatDoor
open List renaming replicate->Bt,replicate_succ->BA
open Go.Proofs.Tryz renaming results93->Bv,prog->BB
open Go renaming bodyPost_ret->Bw,results->Bz
open Nat renaming le_succ->Bx
open Go.Lib renaming hid->Z
open Go.RowKit Go.Maps
theorem xQ (w:World) (n:Nat) (h:n<=1000000):(Instr.makeSlice 37 (.int .i64 n) (.int .i64 n)).run BB w=.ok (.slice (some ⟨w.heap.size,0,none⟩) n n) (w.alloc (.cells ((Bt n (0:Int)).flatMap iC).toArray 3)):=by
 obtain ⟨i,hi,hz,hsz,hby⟩:∃ i,Tryz.prog.info? 3=some i/\i.zero=some (.int .i64 0)/\i.size=1/\i.bytes=8:=by
  have h:=(show (Tryz.prog.info? 3).map (fun i=>(i.zero,i.size,i.bytes))=some (some (.int .i64 0),1,8) by kernel_rfl);cases hi:Tryz.prog.info? 3 with
  | none=>rw [hi] at h;cases h
  | some i=> rw [hi] at h;simp only [Option.map_some,Option.some.injEq,Prod.mk.injEq] at h;exact ⟨i,rfl,h.1,h.2.1,h.2.2⟩
 have e:madeCells (Value.cells (.int .i64 0)) n=((Bt n (0:Int)).flatMap iC).toArray:=by
  rw [<- Array.toList_inj,show Value.cells (.int .i64 0)=#[.int .i64 0] from rfl,toList_madeCells_one];clear h
  induction n with
  | zero=>rfl
  | succ n ih=> rw [BA,BA,List.flatMap_cons,ih];rfl
 rw [run_make w 37 3 i _ Tryz.underlying37 hi hz .i64 .i64 n n (by omega) (Int.le_refl _) (by rw [hby];omega) (by omega),hsz,Nat.mul_one,Int.toNat_natCast,e]
theorem re (h:Hd) (n:Int) (gm:Nat) (B:Int->List UInt8) (w:World) (hb:BookIs w gm B) (hl:∀ n,(B n).length=232) (hk:h.Ok):
  Calls BB 93 #[.agg #[.int .i64 h.mode,.int .i64 h.pages,.int .i64 h.trunk,.int .i64 h.spare,.int .i64 h.root,.int .u64 h.change],.iface 91 (.map (some gm)),.int .i64 n] w
   fun e w'=>e=.returned (.tuple #[(di h B n).h.val,.int .i64 (di h B n).e])/\BookIs w' gm (di h B n).B/\Ch (fun k=>k=gm) w w':=by
 have HH:=Z hb;have hgm:=hb.lt;clear hb;obtain ⟨hm,hp,ht,hs,hr,hc⟩:=h;obtain ⟨k1,k2,k3,k4,k5,k6⟩:=hk;simp only at k1 k2 k3 k4 k5 k6;go_enter Tryz.func93,Tryz.ntmps93;go_upto_region 1 with fail
 have HX1:=Z (am (ag (w0:=w) (g:=w.heap.size) (o:=eo ⟨hm,hp,ht,hs,hr,hc⟩) rfl) (eo Hd.zero));have HR1:=Z (ag (w0:=w.alloc (eo ⟨hm,hp,ht,hs,hr,hc⟩)) (g:=w.heap.size+1) (o:=eo Hd.zero) (by simp));have HW1:=Z (((Below.refl _ w).alloc (Nat.le_refl _) (eo ⟨hm,hp,ht,hs,hr,hc⟩)).alloc (by simp) (eo Hd.zero));have HH1:=Z (HH.out.ch (Ch.zK (S:=fun _=>False) HW1.out) id);generalize hw1:(w.alloc (.cells #[.int .i64 hm,.int .i64 hp,.int .i64 ht,.int .i64 hs,.int .i64 hr,.int .u64 hc] 51)).alloc (.cells #[.int .i64 0,.int .i64 0,.int .i64 0,.int .i64 0,.int .i64 0,.int .u64 0] 51)=w1 at *;have hw2:(w.alloc (eo ⟨hm,hp,ht,hs,hr,hc⟩)).alloc (eo Hd.zero)=w1:=hw1;rw [hw2] at HX1 HR1 HW1 HH1;clear hw1 hw2;obtain ⟨a0,a1,a2,a3,a4,a5,a6⟩:=aA HX1.out;obtain ⟨b0,b1,b2,b3,b4,b5⟩:=ba HX1.out;obtain ⟨c0,c1,c2,c3,c4,c5,c6⟩:=aA HR1.out;obtain ⟨d0,d1,d2,d3,d4,d5⟩:=ba HR1.out;simp only [Hd.zero] at a0 a1 a2 a3 a4 a5 c0 c1 c2 c3 c4 c5;by_cases hn:n<1\/hp<=n
 ·have HT:=Z (show di ⟨hm,hp,ht,hs,hr,hc⟩ B n=ix B 1 by unfold di;rw [if_pos hn]);rcases hn with hn | hn
  ·go_wp2_with fail;have HF:=Z (dF HW1.out HH1.out HR1.out (Bx _) (by omega) ⟨0,0,0,0,0,0⟩);obtain ⟨q0,q1,q2,q3,q4,q5,q6⟩:=aA HF.out.1;generalize hwf:jU (w1) (w.heap.size+1) ⟨0,0,0,0,0,0⟩=wf at *;have hwf2:((((((w1).setCell ⟨w.heap.size+1,0,none⟩ (.int .i64 (0))).setCell ⟨w.heap.size+1,1,none⟩ (.int .i64 (0))).setCell ⟨w.heap.size+1,2,none⟩ (.int .i64 (0))).setCell ⟨w.heap.size+1,3,none⟩ (.int .i64 (0))).setCell ⟨w.heap.size+1,4,none⟩ (.int .i64 (0))).setCell ⟨w.heap.size+1,5,none⟩ (.int .u64 (0))=wf:=hwf;rw [hwf2];exact Bw (v:=.tuple #[.agg #[.int .i64 (0),.int .i64 (0),.int .i64 (0),.int .i64 (0),.int .i64 (0),.int .u64 (0)],.int .i64 (1)]) (by simp [Bz,Bv,go_sem,q0,q1,q2,q3,q4,q5]) rfl ⟨by rw [HT.out];rfl,by rw [HT.out];exact HF.out.2.1.block rfl,⟨HF.out.2.2.os,HF.out.2.2.tape,HF.out.2.2.output,HF.out.2.2.size,HF.out.2.2.block⟩⟩
  ·have hn2:(1:Int)<=n:=by omega
   go_wp2_with fail;have HF:=Z (dF HW1.out HH1.out HR1.out (Bx _) (by omega) ⟨0,0,0,0,0,0⟩);obtain ⟨q0,q1,q2,q3,q4,q5,q6⟩:=aA HF.out.1;generalize hwf:jU (w1) (w.heap.size+1) ⟨0,0,0,0,0,0⟩=wf at *;have hwf2:((((((w1).setCell ⟨w.heap.size+1,0,none⟩ (.int .i64 (0))).setCell ⟨w.heap.size+1,1,none⟩ (.int .i64 (0))).setCell ⟨w.heap.size+1,2,none⟩ (.int .i64 (0))).setCell ⟨w.heap.size+1,3,none⟩ (.int .i64 (0))).setCell ⟨w.heap.size+1,4,none⟩ (.int .i64 (0))).setCell ⟨w.heap.size+1,5,none⟩ (.int .u64 (0))=wf:=hwf;rw [hwf2];exact Bw (v:=.tuple #[.agg #[.int .i64 (0),.int .i64 (0),.int .i64 (0),.int .i64 (0),.int .i64 (0),.int .u64 (0)],.int .i64 (1)]) (by simp [Bz,Bv,go_sem,q0,q1,q2,q3,q4,q5]) rfl ⟨by rw [HT.out];rfl,by rw [HT.out];exact HF.out.2.1.block rfl,⟨HF.out.2.2.os,HF.out.2.2.tape,HF.out.2.2.output,HF.out.2.2.size,HF.out.2.2.block⟩⟩
 ·have hn1:(1:Int)<=n:=by omega
  have hn2:n<hp:=by omega
  by_cases hsp:hp - 1<=hs
  ·have HT:=Z (show di ⟨hm,hp,ht,hs,hr,hc⟩ B n=ix B 30 by unfold di;rw [if_neg hn,if_pos hsp]);go_wp2_with fail;have HF:=Z (dF HW1.out HH1.out HR1.out (Bx _) (by omega) ⟨0,0,0,0,0,0⟩);obtain ⟨q0,q1,q2,q3,q4,q5,q6⟩:=aA HF.out.1;generalize hwf:jU (w1) (w.heap.size+1) ⟨0,0,0,0,0,0⟩=wf at *;have hwf2:((((((w1).setCell ⟨w.heap.size+1,0,none⟩ (.int .i64 (0))).setCell ⟨w.heap.size+1,1,none⟩ (.int .i64 (0))).setCell ⟨w.heap.size+1,2,none⟩ (.int .i64 (0))).setCell ⟨w.heap.size+1,3,none⟩ (.int .i64 (0))).setCell ⟨w.heap.size+1,4,none⟩ (.int .i64 (0))).setCell ⟨w.heap.size+1,5,none⟩ (.int .u64 (0))=wf:=hwf;rw [hwf2];exact Bw (v:=.tuple #[.agg #[.int .i64 (0),.int .i64 (0),.int .i64 (0),.int .i64 (0),.int .i64 (0),.int .u64 (0)],.int .i64 (30)]) (by simp [Bz,Bv,go_sem,q0,q1,q2,q3,q4,q5]) rfl ⟨by rw [HT.out];rfl,by rw [HT.out];exact HF.out.2.1.block rfl,⟨HF.out.2.2.os,HF.out.2.2.tape,HF.out.2.2.output,HF.out.2.2.size,HF.out.2.2.block⟩⟩
  ·have hsp2:hs<hp - 1:=by omega
   have hmk:=xQ w1 50 (by omega);have HW2:=Z (HW1.out.alloc HW1.out.size (.cells ((Bt 50 (0:Int)).flatMap iC).toArray 3));have HX2:=Z (am HX1.out (.cells ((Bt 50 (0:Int)).flatMap iC).toArray 3));have HR2:=Z (am HR1.out (.cells ((Bt 50 (0:Int)).flatMap iC).toArray 3));have HH2:=Z (HH1.out.ch (Ch.alloc (Ch.refl (fun _=>False) w1) (.cells ((Bt 50 (0:Int)).flatMap iC).toArray 3)) id);have hs2:w.heap.size+2<(w1.alloc (.cells ((Bt 50 (0:Int)).flatMap iC).toArray 3)).heap.size:=by simp;omega
   generalize w1.alloc (.cells ((Bt 50 (0:Int)).flatMap iC).toArray 3)=w2 at *;generalize w1.heap.size=g1 at *;have hmk2:(Instr.makeSlice 37 (.int .i64 50) (.int .i64 50)).run BB w1=.ok (.slice (some ⟨g1,0,none⟩) 50 50) w2:=hmk;clear hmk;have HX3:=Z (am HX2.out (.cells #[.int .i64 0,.slice (some ⟨g1,0,none⟩) 50 50] 167));have HR3:=Z (am HR2.out (.cells #[.int .i64 0,.slice (some ⟨g1,0,none⟩) 50 50] 167));have HW3:=Z (HW2.out.alloc HW2.out.size (.cells #[.int .i64 0,.slice (some ⟨g1,0,none⟩) 50 50] 167));have HH3:=Z (HH2.out.ch (Ch.alloc (Ch.refl (fun _=>False) w2) (.cells #[.int .i64 0,.slice (some ⟨g1,0,none⟩) 50 50] 167)) id);have HG3:=Z (ag (w0:=w2) (g:=w2.heap.size) (o:=.cells #[.int .i64 0,.slice (some ⟨g1,0,none⟩) 50 50] 167) rfl);have hn3:n≠0:=by omega
   go_upto_region 7 with fail
   generalize w2.alloc (.cells #[.int .i64 0,.slice (some ⟨g1,0,none⟩) 50 50] 167)=w3 at *;generalize w2.heap.size=g2 at *;clear a0 a1 a2 a3 a4 a5 b0 b1 b2 b3 b4 b5 c0 c1 c2 c3 c4 c5 d0 d1 d2 d3 d4 d5 hmk2;obtain ⟨a0,a1,a2,a3,a4,a5,a7⟩:=aA HX3.out;obtain ⟨b0,b1,b2,b3,b4,b5⟩:=ba HX3.out;obtain ⟨c0,c1,c2,c3,c4,c5,c7⟩:=aA HR3.out;obtain ⟨d0,d1,d2,d3,d4,d5⟩:=ba HR3.out;obtain ⟨t0,t1,t2,t3,t4⟩:=eM HG3.out;simp only [Hd.zero] at a0 a1 a2 a3 a4 a5 c0 c1 c2 c3 c4 c5;by_cases ht0:ht=0
   ·subst ht0;have HT:=Z (show di ⟨hm,hp,0,hs,hr,hc⟩ B n=⟨⟨hm,hp,n,hs+1,hr,hc⟩,0,bN B n (aK (gD ⟨0,[]⟩))⟩ by unfold di;rw [if_neg hn,if_neg hsp,if_pos rfl]);have HLB:=Z (show lM ⟨0,[]⟩ B n=bN B n (aK (gD ⟨0,[]⟩))/\lL ⟨0,[]⟩=0 from ⟨rfl,rfl⟩);go_wp2_with fail;refine (lW n ⟨0,[]⟩ _ gm B w3 HH3.out (by omega) (by omega) Sl.nil (by simp)).mono ?_;rintro e wl ⟨rfl,hbk,hch⟩;have HXL:=HX3;have HRL:=HR3;have HWL:=HW3
    have HM5:=Z (show BookIs wl gm (bN B n (aK (gD ⟨0,[]⟩)))/\wl.heap[w.heap.size]?=some (eo ⟨hm,hp,0,hs,hr,hc⟩)/\wl.heap[w.heap.size+1]?=some (eo Hd.zero)/\Ch (fun k=>k=gm) w wl from
     ⟨by rw [<- HLB.out.1];exact hbk,hch.keep HXL.out (by omega),hch.keep HRL.out (by omega),(Ch.zK (S:=fun k=>k=gm) HWL.out).trans hch⟩)
    rw [HLB.out.2];clear hbk hch a0 a1 a2 a3 a4 a5 b0 b1 b2 b3 b4 b5 c0 c1 c2 c3 c4 c5 d0 d1 d2 d3 d4 d5 t0 t1 t2 t3 t4;have hlt5:=aj HM5.out.2.1;have hfz5:=ab HM5.out.2.1;have b2:=hfz5 2;have a2:=(aA HM5.out.2.1).2.2.1;simp only at a2;clear hfz5;have HX6:=Z (ai HM5.out.2.1 2 (.int .i64 n));have HR6:=Z (cN HM5.out.2.2.1 (a:=⟨w.heap.size,2,none⟩) (by simp) (.int .i64 n));have HC6:=Z (HM5.out.2.2.2.then ((Ch.refl (fun j=>j=w.heap.size) wl).setCell (p:=⟨w.heap.size,2,none⟩) rfl (.int .i64 n)) (fun i e=>.inr (by omega)));have HBK:=Z (HM5.out.1.ch ((Ch.refl (fun j=>j=w.heap.size) wl).setCell (p:=⟨w.heap.size,2,none⟩) rfl (.int .i64 n)) (by omega));go_upto_region 16 with fail
    generalize wl.setCell ⟨w.heap.size,2,none⟩ (.int .i64 n)=wc at *;clear a2 b2;have HX7:=Z (show wc.heap[w.heap.size]?=some (eo ⟨hm,hp,n,hs,hr,hc⟩) from HX6.out);clear HX6;obtain ⟨a0,a1,a2,a3,a4,a5,a7⟩:=aA HX7.out;obtain ⟨b0,b1,b2,b3,b4,b5⟩:=ba HX7.out;obtain ⟨c0,c1,c2,c3,c4,c5,c7⟩:=aA HR6.out;obtain ⟨d0,d1,d2,d3,d4,d5⟩:=ba HR6.out;simp only [Hd.zero] at a0 a1 a2 a3 a4 a5 c0 c1 c2 c3 c4 c5;go_wp2_with fail;have HF:=Z (jr (HC6.out.then ((Ch.refl (fun j=>j=w.heap.size) wc).setCell (p:=⟨w.heap.size,3,none⟩) rfl (.int .i64 (hs+1))) (fun i e=>.inr (by omega))) (HBK.out.ch ((Ch.refl (fun j=>j=w.heap.size) wc).setCell (p:=⟨w.heap.size,3,none⟩) rfl (.int .i64 (hs+1))) (by omega)) (cN HR6.out (a:=⟨w.heap.size,3,none⟩) (by simp) (.int .i64 (hs+1))) (Bx _) (by omega) ⟨hm,hp,n,hs+1,hr,hc⟩);obtain ⟨q0,q1,q2,q3,q4,q5,q6⟩:=aA HF.out.1;generalize hwf:jU (wc.setCell ⟨w.heap.size,3,none⟩ (.int .i64 (hs+1))) (w.heap.size+1) ⟨hm,hp,n,hs+1,hr,hc⟩=wf at *;have hwf2:((((((wc.setCell ⟨w.heap.size,3,none⟩ (.int .i64 (hs+1))).setCell ⟨w.heap.size+1,0,none⟩ (.int .i64 (hm))).setCell ⟨w.heap.size+1,1,none⟩ (.int .i64 (hp))).setCell ⟨w.heap.size+1,2,none⟩ (.int .i64 (n))).setCell ⟨w.heap.size+1,3,none⟩ (.int .i64 (hs+1))).setCell ⟨w.heap.size+1,4,none⟩ (.int .i64 (hr))).setCell ⟨w.heap.size+1,5,none⟩ (.int .u64 (hc))=wf:=hwf;rw [hwf2];exact Bw (v:=.tuple #[.agg #[.int .i64 (hm),.int .i64 (hp),.int .i64 (n),.int .i64 (hs+1),.int .i64 (hr),.int .u64 (hc)],.int .i64 (0)]) (by simp [Bz,Bv,go_sem,q0,q1,q2,q3,q4,q5]) rfl ⟨by rw [HT.out];rfl,by rw [HT.out];exact HF.out.2.1.block rfl,⟨HF.out.2.2.os,HF.out.2.2.tape,HF.out.2.2.output,HF.out.2.2.size,HF.out.2.2.block⟩⟩
   ·have hz0:(ht == 0)=false:=by simpa using ht0
    have hg2:g2<w3.heap.size:=aj HG3.out;go_wp2_with fail;refine (nY ht gm B w3 HH3.out (lP k3 k4) (hl ht)).mono ?_;obtain ⟨⟨tn,tl⟩,hT⟩:∃ T,eZ (B ht)=T:=⟨_,rfl⟩;obtain ⟨te,hte⟩:∃ te,kG (B ht)=te:=⟨_,rfl⟩;rw [hT,hte];have HTT:=Z hT;have HTE:=Z hte;clear hT hte;rintro e w4 ⟨v,rfl,⟨lv,rfl,ho⟩,hb⟩;simp only at ho;obtain ⟨A,c,rfl⟩:=Sl.zM (ho.sl ax);have HX4:=Z (af HX3.out hb);have HR4:=Z (af HR3.out hb);have HG4:=Z (af HG3.out hb);have HW4:=Z (HW3.out.trans (hb.mono HW3.out.size));have HH4:=Z (HH3.out.ch (Ch.zK (S:=fun _=>False) hb) id);have hg4:g2<w4.heap.size:=aj HG4.out;have hne2:w.heap.size≠g2:=by omega
    have hne3:w.heap.size+1≠g2:=by omega
    obtain ⟨t0,t1,t2,t3,t4⟩:=eM HG4.out;have hc5:Ch (fun j=>j=g2) w4 ((w4.setCell ⟨g2,0,none⟩ (.int .i64 tn)).setCell ⟨g2,1,none⟩ (.slice A tl.length c)):=((Ch.refl (fun j=>j=g2) w4).setCell (p:=⟨g2,0,none⟩) rfl _).setCell (p:=⟨g2,1,none⟩) rfl _;have HO5:=Z (ho.ch hc5 (fun j hj e=>by have:=(ho.lt j hj).1;omega));have HX5:=Z (hc5.keep HX4.out hne2);have HR5:=Z (hc5.keep HR4.out hne3);have HG5:=Z (show ((w4.setCell ⟨g2,0,none⟩ (.int .i64 tn)).setCell ⟨g2,1,none⟩ (.slice A tl.length c)).heap[g2]?=some (.cells #[.int .i64 tn,.slice A tl.length c] 167 (0,0)) from ai (ai HG4.out 0 (.int .i64 tn)) 1 (.slice A tl.length c));have HW5:=Z ((HW4.out.setCell (p:=⟨g2,0,none⟩) (show w.heap.size<=g2 by omega) (.int .i64 tn)).setCell (p:=⟨g2,1,none⟩) (show w.heap.size<=g2 by omega) (.slice A tl.length c));have HH5:=Z (HH4.out.ch hc5 (by omega));have hs5:w3.heap.size<=((w4.setCell ⟨g2,0,none⟩ (.int .i64 tn)).setCell ⟨g2,1,none⟩ (.slice A tl.length c)).heap.size:=Nat.le_trans hb.size hc5.size;clear hb ho hc5 a0 a1 a2 a3 a4 a5 b0 b1 b2 b3 b4 b5 c0 c1 c2 c3 c4 c5 d0 d1 d2 d3 d4 d5;go_upto_region 9 with fail
    generalize (w4.setCell ⟨g2,0,none⟩ (.int .i64 tn)).setCell ⟨g2,1,none⟩ (.slice A tl.length c)=w5 at *;clear t0 t1 t2 t3 t4;obtain ⟨a0,a1,a2,a3,a4,a5,a7⟩:=aA HX5.out;obtain ⟨b0,b1,b2,b3,b4,b5⟩:=ba HX5.out;obtain ⟨c0,c1,c2,c3,c4,c5,c7⟩:=aA HR5.out;obtain ⟨d0,d1,d2,d3,d4,d5⟩:=ba HR5.out;obtain ⟨t0,t1,t2,t3,t4⟩:=eM HG5.out;simp only [Hd.zero] at a0 a1 a2 a3 a4 a5 c0 c1 c2 c3 c4 c5;cases hd:ef (B ht)
    ·have HT:=Z (show di ⟨hm,hp,ht,hs,hr,hc⟩ B n=ix B 30 by unfold di;rw [if_neg hn,if_neg (by simp only;omega),if_neg ht0,if_pos hd]);obtain rfl:te=30:=by rw [<- HTE.out];simp [kG,hd]
     clear HTE;go_wp2_with fail;have HF:=Z (dF HW5.out HH5.out HR5.out (Bx _) (by omega) ⟨0,0,0,0,0,0⟩);obtain ⟨q0,q1,q2,q3,q4,q5,q6⟩:=aA HF.out.1;generalize hwf:jU (w5) (w.heap.size+1) ⟨0,0,0,0,0,0⟩=wf at *;have hwf2:((((((w5).setCell ⟨w.heap.size+1,0,none⟩ (.int .i64 (0))).setCell ⟨w.heap.size+1,1,none⟩ (.int .i64 (0))).setCell ⟨w.heap.size+1,2,none⟩ (.int .i64 (0))).setCell ⟨w.heap.size+1,3,none⟩ (.int .i64 (0))).setCell ⟨w.heap.size+1,4,none⟩ (.int .i64 (0))).setCell ⟨w.heap.size+1,5,none⟩ (.int .u64 (0))=wf:=hwf;rw [hwf2];exact Bw (v:=.tuple #[.agg #[.int .i64 (0),.int .i64 (0),.int .i64 (0),.int .i64 (0),.int .i64 (0),.int .u64 (0)],.int .i64 (30)]) (by simp [Bz,Bv,go_sem,q0,q1,q2,q3,q4,q5]) rfl ⟨by rw [HT.out];rfl,by rw [HT.out];exact HF.out.2.1.block rfl,⟨HF.out.2.2.os,HF.out.2.2.tape,HF.out.2.2.output,HF.out.2.2.size,HF.out.2.2.block⟩⟩
    ·obtain rfl:te=0:=by rw [<- HTE.out];simp [kG,hd]
     have HDP:=Z (show dB (B ht)=⟨tn,tl⟩ by rw [<- HTT.out];simp [eZ,hd]);clear HTE HTT;have HBD:=Z (show bX ⟨tn,tl⟩=false by have:=hZ hd;rw [HDP.out] at this;exact this);have hl50:tl.length<=50:=(lA HBD.out).2.2.1;have htk0:1<=ht:=by omega
     by_cases h50:tl.length<50
     ·have HT:=Z (show di ⟨hm,hp,ht,hs,hr,hc⟩ B n=⟨⟨hm,hp,ht,hs+1,hr,hc⟩,0,bN B ht (aK (gD ⟨tn,tl ++ [n]⟩))⟩ by
       unfold di;rw [if_neg hn,if_neg (by simp only;omega),if_neg ht0,if_neg (by rw [hd];simp),HDP.out,if_pos h50])
      have h50i:(tl.length:Int)<50:=by omega
      have hb2:bX ⟨tn,tl ++ [n]⟩=false:=by have h:=HBD.out;unfold bX at h ⊢;simp only [Bool.or_eq_false_iff,List.any_append] at h ⊢;refine ⟨⟨h.1.1,by simp;omega⟩,h.2,?_⟩;simp [fI];omega
      have HLB:=Z (show lM ⟨tn,tl ++ [n]⟩ B ht=bN B ht (aK (gD ⟨tn,tl ++ [n]⟩))/\lL ⟨tn,tl ++ [n]⟩=0 by unfold lM lL;rw [hb2];exact ⟨rfl,rfl⟩);clear hb2;go_upto_region 12 with fail
      go_wp2_with (at_builtin;refine Hid.out ?_);refine Z ?_;refine al rfl rfl bI rfl rfl (HO5.out.alloc _) (Sl.one n (by simp) ax (by rfl)) (by simp [maxLen];omega) (by simp;omega) (by simp;omega) ?_;intro v' w6 ho hgr hat;have hc6:=Ch.zL (S:=fun k=>w3.heap.size<=k) hgr (fun k hk=>(HO5.out.lt k hk).1);have HX6:=Z (hc6.keep (am HX5.out _) (by omega));have HR6:=Z (hc6.keep (am HR5.out _) (by omega));have HG6:=Z (hc6.keep (am HG5.out _) (by omega));have HW6:=Z ((HW5.out.alloc HW5.out.size (.cells #[.int .i64 n] 3)).trans (hc6.below (B:=w.heap.size) (by have:=HW5.out.size;simp;omega) (fun k hk=>by omega)));have HH6:=Z ((HH5.out.ch (Ch.alloc (Ch.refl (fun _=>False) w5) (.cells #[.int .i64 n] 3)) id).ch hc6 (by omega));have HO6:=Z ho;have hs6:w3.heap.size<=w6.heap.size:=Nat.le_trans (by simp;omega) hc6.size;obtain ⟨A6,c6,hv6⟩:=Sl.zM (ho.sl ax);rw [show (tl ++ [n]).length=tl.length+1 by simp] at hv6;subst hv6;clear ho hgr hat hc6 t0 t1 t2 t3 t4 a0 a1 a2 a3 a4 a5 b0 b1 b2 b3 b4 b5 c0 c1 c2 c3 c4 c5 d0 d1 d2 d3 d4 d5;obtain ⟨t0,t1,t2,t3,t4⟩:=eM HG6.out;have hc7:Ch (fun j=>j=g2) w6 (w6.setCell ⟨g2,1,none⟩ (.slice A6 (tl.length+1) c6)):=(Ch.refl (fun j=>j=g2) w6).setCell (p:=⟨g2,1,none⟩) rfl _;have HO7:=Z (HO6.out.ch hc7 (fun j hj e=>by have:=(HO6.out.lt j hj).1;omega));have HX7:=Z (hc7.keep HX6.out hne2);have HR7:=Z (hc7.keep HR6.out hne3);have HG7:=Z (show (w6.setCell ⟨g2,1,none⟩ (.slice A6 (tl.length+1) c6)).heap[g2]?=some (.cells #[.int .i64 tn,.slice A6 (tl.length+1) c6] 167 (0,0)) from ai HG6.out 1 (.slice A6 (tl.length+1) c6));have HW7:=Z (HW6.out.setCell (p:=⟨g2,1,none⟩) (show w.heap.size<=g2 by omega) (.slice A6 (tl.length+1) c6));have HH7:=Z (HH6.out.ch hc7 (by omega));clear hc7;go_upto_region 13 with fail
      generalize w6.setCell ⟨g2,1,none⟩ (.slice A6 (tl.length+1) c6)=w7 at *;clear t0 t1 t2 t3 t4;obtain ⟨a0,a1,a2,a3,a4,a5,a7⟩:=aA HX7.out;obtain ⟨t0,t1,t2,t3,t4⟩:=eM HG7.out;simp only at a0 a1 a2 a3 a4 a5;go_wp2_with fail;refine (lW ht ⟨tn,tl ++ [n]⟩ _ gm B w7 HH7.out k3 k4 (HO7.out.sl ax) (by simp;omega)).mono ?_;rintro e wc ⟨rfl,hbk,hch⟩;rw [HLB.out.2];have HBK:=Z (show BookIs wc gm (bN B ht (aK (gD ⟨tn,tl ++ [n]⟩))) from by rw [<- HLB.out.1];exact hbk);have HX6:=Z (hch.keep HX7.out (by omega));have HR6:=Z (hch.keep HR7.out (by omega));have HC6:=Z ((Ch.zK (S:=fun k=>k=gm) HW7.out).trans hch);clear hbk hch a0 a1 a2 a3 a4 a5 t0 t1 t2 t3 t4 HX7;have HX7:=HX6;clear HX6;obtain ⟨a0,a1,a2,a3,a4,a5,a7⟩:=aA HX7.out;obtain ⟨b0,b1,b2,b3,b4,b5⟩:=ba HX7.out;obtain ⟨c0,c1,c2,c3,c4,c5,c7⟩:=aA HR6.out;obtain ⟨d0,d1,d2,d3,d4,d5⟩:=ba HR6.out;simp only [Hd.zero] at a0 a1 a2 a3 a4 a5 c0 c1 c2 c3 c4 c5;go_wp2_with fail;have HF:=Z (jr (HC6.out.then ((Ch.refl (fun j=>j=w.heap.size) wc).setCell (p:=⟨w.heap.size,3,none⟩) rfl (.int .i64 (hs+1))) (fun i e=>.inr (by omega))) (HBK.out.ch ((Ch.refl (fun j=>j=w.heap.size) wc).setCell (p:=⟨w.heap.size,3,none⟩) rfl (.int .i64 (hs+1))) (by omega)) (cN HR6.out (a:=⟨w.heap.size,3,none⟩) (by simp) (.int .i64 (hs+1))) (Bx _) (by omega) ⟨hm,hp,ht,hs+1,hr,hc⟩);obtain ⟨q0,q1,q2,q3,q4,q5,q6⟩:=aA HF.out.1;generalize hwf:jU (wc.setCell ⟨w.heap.size,3,none⟩ (.int .i64 (hs+1))) (w.heap.size+1) ⟨hm,hp,ht,hs+1,hr,hc⟩=wf at *;have hwf2:((((((wc.setCell ⟨w.heap.size,3,none⟩ (.int .i64 (hs+1))).setCell ⟨w.heap.size+1,0,none⟩ (.int .i64 (hm))).setCell ⟨w.heap.size+1,1,none⟩ (.int .i64 (hp))).setCell ⟨w.heap.size+1,2,none⟩ (.int .i64 (ht))).setCell ⟨w.heap.size+1,3,none⟩ (.int .i64 (hs+1))).setCell ⟨w.heap.size+1,4,none⟩ (.int .i64 (hr))).setCell ⟨w.heap.size+1,5,none⟩ (.int .u64 (hc))=wf:=hwf;rw [hwf2];exact Bw (v:=.tuple #[.agg #[.int .i64 (hm),.int .i64 (hp),.int .i64 (ht),.int .i64 (hs+1),.int .i64 (hr),.int .u64 (hc)],.int .i64 (0)]) (by simp [Bz,Bv,go_sem,q0,q1,q2,q3,q4,q5]) rfl ⟨by rw [HT.out];rfl,by rw [HT.out];exact HF.out.2.1.block rfl,⟨HF.out.2.2.os,HF.out.2.2.tape,HF.out.2.2.output,HF.out.2.2.size,HF.out.2.2.block⟩⟩
     ·have HT:=Z (show di ⟨hm,hp,ht,hs,hr,hc⟩ B n=⟨⟨hm,hp,n,hs+1,hr,hc⟩,0,bN B n (aK (gD ⟨ht,[]⟩))⟩ by
       unfold di;rw [if_neg hn,if_neg (by simp only;omega),if_neg ht0,if_neg (by rw [hd];simp),HDP.out,if_neg h50])
      have h50i:(50:Int)<=(tl.length:Int):=by omega
      have HLB:=Z (show lM ⟨ht,[]⟩ B n=bN B n (aK (gD ⟨ht,[]⟩))/\lL ⟨ht,[]⟩=0 by
       have:bX ⟨ht,[]⟩=false:=by unfold bX;simp [fI];omega
       unfold lM lL;rw [this];exact ⟨rfl,rfl⟩)
      go_wp2_with fail;refine (lW n ⟨ht,[]⟩ _ gm B w5 HH5.out (by omega) (by omega) Sl.nil (by simp)).mono ?_;rintro e wl ⟨rfl,hbk,hch⟩;have HXL:=HX5;have HRL:=HR5;have HWL:=HW5
      have HM5:=Z (show BookIs wl gm (bN B n (aK (gD ⟨ht,[]⟩)))/\wl.heap[w.heap.size]?=some (eo ⟨hm,hp,ht,hs,hr,hc⟩)/\wl.heap[w.heap.size+1]?=some (eo Hd.zero)/\Ch (fun k=>k=gm) w wl from
       ⟨by rw [<- HLB.out.1];exact hbk,hch.keep HXL.out (by omega),hch.keep HRL.out (by omega),(Ch.zK (S:=fun k=>k=gm) HWL.out).trans hch⟩)
      rw [HLB.out.2];clear hbk hch a0 a1 a2 a3 a4 a5 b0 b1 b2 b3 b4 b5 c0 c1 c2 c3 c4 c5 d0 d1 d2 d3 d4 d5 t0 t1 t2 t3 t4;have hlt5:=aj HM5.out.2.1;have hfz5:=ab HM5.out.2.1;have b2:=hfz5 2;have a2:=(aA HM5.out.2.1).2.2.1;simp only at a2;clear hfz5;have HX6:=Z (ai HM5.out.2.1 2 (.int .i64 n));have HR6:=Z (cN HM5.out.2.2.1 (a:=⟨w.heap.size,2,none⟩) (by simp) (.int .i64 n));have HC6:=Z (HM5.out.2.2.2.then ((Ch.refl (fun j=>j=w.heap.size) wl).setCell (p:=⟨w.heap.size,2,none⟩) rfl (.int .i64 n)) (fun i e=>.inr (by omega)));have HBK:=Z (HM5.out.1.ch ((Ch.refl (fun j=>j=w.heap.size) wl).setCell (p:=⟨w.heap.size,2,none⟩) rfl (.int .i64 n)) (by omega));go_upto_region 16 with fail
      generalize wl.setCell ⟨w.heap.size,2,none⟩ (.int .i64 n)=wc at *;clear a2 b2;have HX7:=Z (show wc.heap[w.heap.size]?=some (eo ⟨hm,hp,n,hs,hr,hc⟩) from HX6.out);clear HX6;obtain ⟨a0,a1,a2,a3,a4,a5,a7⟩:=aA HX7.out;obtain ⟨b0,b1,b2,b3,b4,b5⟩:=ba HX7.out;obtain ⟨c0,c1,c2,c3,c4,c5,c7⟩:=aA HR6.out;obtain ⟨d0,d1,d2,d3,d4,d5⟩:=ba HR6.out;simp only [Hd.zero] at a0 a1 a2 a3 a4 a5 c0 c1 c2 c3 c4 c5;go_wp2_with fail;have HF:=Z (jr (HC6.out.then ((Ch.refl (fun j=>j=w.heap.size) wc).setCell (p:=⟨w.heap.size,3,none⟩) rfl (.int .i64 (hs+1))) (fun i e=>.inr (by omega))) (HBK.out.ch ((Ch.refl (fun j=>j=w.heap.size) wc).setCell (p:=⟨w.heap.size,3,none⟩) rfl (.int .i64 (hs+1))) (by omega)) (cN HR6.out (a:=⟨w.heap.size,3,none⟩) (by simp) (.int .i64 (hs+1))) (Bx _) (by omega) ⟨hm,hp,n,hs+1,hr,hc⟩);obtain ⟨q0,q1,q2,q3,q4,q5,q6⟩:=aA HF.out.1;generalize hwf:jU (wc.setCell ⟨w.heap.size,3,none⟩ (.int .i64 (hs+1))) (w.heap.size+1) ⟨hm,hp,n,hs+1,hr,hc⟩=wf at *;have hwf2:((((((wc.setCell ⟨w.heap.size,3,none⟩ (.int .i64 (hs+1))).setCell ⟨w.heap.size+1,0,none⟩ (.int .i64 (hm))).setCell ⟨w.heap.size+1,1,none⟩ (.int .i64 (hp))).setCell ⟨w.heap.size+1,2,none⟩ (.int .i64 (n))).setCell ⟨w.heap.size+1,3,none⟩ (.int .i64 (hs+1))).setCell ⟨w.heap.size+1,4,none⟩ (.int .i64 (hr))).setCell ⟨w.heap.size+1,5,none⟩ (.int .u64 (hc))=wf:=hwf;rw [hwf2];exact Bw (v:=.tuple #[.agg #[.int .i64 (hm),.int .i64 (hp),.int .i64 (n),.int .i64 (hs+1),.int .i64 (hr),.int .u64 (hc)],.int .i64 (0)]) (by simp [Bz,Bv,go_sem,q0,q1,q2,q3,q4,q5]) rfl ⟨by rw [HT.out];rfl,by rw [HT.out];exact HF.out.2.1.block rfl,⟨HF.out.2.2.os,HF.out.2.2.tape,HF.out.2.2.output,HF.out.2.2.size,HF.out.2.2.block⟩⟩
end Go.Proofs.YtknioodagnjchaaGreatDoor
namespace Go.Proofs.YtknioodagnjchaaGreatDoor
open Bool renaming and_eq_true->Bt
open List renaming mem_cons_of_mem->Bv,mem_cons_self->Bw,append_assoc->Bx,eq_nil_of_length_eq_zero->Bz,drop_succ_cons->BA,take_of_length_le->BB,length_cons->BC,all_eq_true->BD,length_tail->BE,drop_left'->BF,replicate->BG
abbrev By:=List UInt8
def bM (a b:By):Bool:=Op.bytesLess a b
theorem klt_cons {a b:UInt8} {x y:By}:bM (a :: x) (b :: y)=true↔a<b\/a=b/\bM x y=true:=by simp [bM,Op.bytesLess]
theorem kq (x:By):bM x []=false:=by cases x <;> rfl
theorem eG:∀ a:By,bM a a=false
 | []=>rfl
 | a :: x=>by
   cases h:bM (a :: x) (a :: x)
   ·rfl
   ·rcases klt_cons.1 h with h | ⟨_,h⟩
    ·exact absurd h (by simp)
    ·rw [eG x] at h;cases h
theorem cS:∀ {a b c:By},bM a b=true->bM b c=true->bM a c=true
 | _,[],_,h,_=>by rw [kq] at h;cases h
 | _,_,[],_,h=>by rw [kq] at h;cases h
 | [],_ :: _,_ :: _,_,_=>rfl
 | a :: x,b :: y,c :: z,h1,h2=>by
   rw [klt_cons] at *;rcases h1 with h1 | ⟨rfl,h1⟩
   ·rcases h2 with h2 | ⟨rfl,h2⟩
    ·exact .inl (UInt8.lt_trans h1 h2)
    ·exact .inl h1
   ·rcases h2 with h2 | ⟨rfl,h2⟩
    ·exact .inl h2
    ·exact .inr ⟨rfl,cS h1 h2⟩
theorem ju:∀ a b:By,bM a b=true\/a=b\/bM b a=true
 | [],[]=>.inr (.inl rfl)
 | [],_ :: _=>.inl rfl
 | _ :: _,[]=>.inr (.inr rfl)
 | a :: x,b :: y=>by
   rw [klt_cons,klt_cons];rcases UInt8.lt_or_lt_of_ne (a:=a) (b:=b) |> fun f=>(Decidable.em (a=b)).elim (fun h=>Or.inr h) (fun h=>Or.inl (f h)) with h | rfl
   ·rcases h with h | h
    ·exact .inl (.inl h)
    ·exact .inr (.inr (.inl h))
   ·rcases ju x y with h | rfl | h
    ·exact .inl (.inr ⟨rfl,h⟩)
    ·exact .inr (.inl rfl)
    ·exact .inr (.inr (.inr ⟨rfl,h⟩))
theorem aL {a b:By} (h:bM a b=true):bM b a=false:=by
 cases h2:bM b a
 ·rfl
 ·have:=cS h h2;rw [eG] at this;cases this
theorem ir {a b:By} (h:bM a b=true):a≠b:=fun e=>by rw [e,eG] at h;cases h
theorem sm {a b:By} (h:bM a b=false) (hne:a≠b):bM b a=true:=by
 rcases ju a b with h2 | h2 | h2
 ·rw [h] at h2;cases h2
 ·exact absurd h2 hne
 ·exact h2
theorem fj {a b c:By} (h:bM b a=false) (h2:bM b c=true):bM a c=true:=by
 rcases ju a b with h3 | rfl | h3
 ·exact cS h3 h2
 ·exact h2
 ·rw [h] at h3;cases h3
theorem fi {a b c:By} (h:bM a b=true) (h2:bM c b=false):bM a c=true:=by
 rcases ju b c with h3 | rfl | h3
 ·exact cS h h3
 ·exact h
 ·rw [h2] at h3;cases h3
theorem oI {a b c:By} (h:bM b a=false) (h2:bM c b=false):bM c a=false:=by
 cases h3:bM c a
 ·rfl
 ·have:=fi h3 h;rw [h2] at this;cases this
structure Ce where
 size:Int
 data:By
 page:Int
deriving DecidableEq
structure Nd where
 leaf:Bool
 keys:List By
 cells:List Ce
 kids:List Int
deriving DecidableEq
def Nd.zero:Nd:=⟨false,[],[],[]⟩
def cI (n:Int):Bool:=decide (1<=n) && decide (n<4096)
def aI (c:Ce):Bool:=
 if c.size<0\/5000<c.size then false
 else if c.size<=40 then decide ((c.data.length:Int)=c.size) && decide (c.page=0)
 else decide (c.data=[]) && cI c.page
def aH:List By->Bool
 | []=>true
 | [k]=>decide (k.length<=64)
 | a :: b :: r=>decide (a.length<=64) && bM a b && aH (b :: r)
def cz (l:List Int):Bool:=decide l.Nodup && l.all cI
def aD (n:Nd):Bool:=
 aH n.keys && if n.leaf then decide (n.cells.length=n.keys.length) && decide (n.kids=[]) && n.cells.all aI
  else decide (n.keys≠[]) && decide (n.kids.length=n.keys.length+1) && decide (n.cells=[]) && cz n.kids
def gR (c:Ce):By:=bD c.size.toNat ++ if 40<c.size then aR 4 c.page.toNat else c.data
def gE (k:By):By:=bD k.length ++ k
def bC:List By->List Ce->By
 | k :: ks,c :: cs=>gE k ++ gR c ++ bC ks cs
 | _,_=>[]
def eX:List By->List Int->By
 | k :: ks,d :: ds=>gE k ++ aR 4 d.toNat ++ eX ks ds
 | _,_=>[]
def aw (n:Nd):By:=
 (if n.leaf then 1 else 2) :: (aR 2 n.keys.length ++ if n.leaf then bC n.keys n.cells else aR 4 (n.kids.getD 0 0).toNat ++ eX n.keys n.kids.tail)
def iP (n:Nd):Nat:=if aD n then (aw n).length else 0
structure Rd where
 rest:By
 bad:Bool
def cP (r:Rd) (n:Nat):By × Rd:=if r.rest.length<n then ([],⟨r.rest,true⟩) else (r.rest.take n,⟨r.rest.drop n,r.bad⟩)
def bK (r:Rd):Nat × Rd:=if (iE r.rest).2.2≠0\/5000<(iE r.rest).1 then (0,⟨r.rest,true⟩) else ((iE r.rest).1,⟨r.rest.drop (iE r.rest).2.1,r.bad⟩)
def dK (r:Rd):Nat × Rd:=(cw (cP r 4).1,(cP r 4).2)
def ed (r:Rd):Ce × Rd:=
 if 40<(bK r).1 then (⟨(bK r).1,[],(dK (bK r).2).1⟩,(dK (bK r).2).2)
 else (⟨(bK r).1,(cP (bK r).2 (bK r).1).1,0⟩,(cP (bK r).2 (bK r).1).2)
def ep (r:Rd):By × Rd:=cP (bK r).2 (bK r).1
def kB:Nat->Rd->Nd->Rd × Nd
 | 0,r,n=>(r,n)
 | c+1,r,n=>
   if r.bad then (r,n)
   else if n.leaf then kB c (ed (ep r).2).2 { n with keys:=n.keys ++ [(ep r).1],cells:=n.cells ++ [(ed (ep r).2).1] }
   else kB c (dK (ep r).2).2 { n with keys:=n.keys ++ [(ep r).1],kids:=n.kids ++ [((dK (ep r).2).1:Int)] }
def aX (l:By):Rd × Nd:=
 if l.getD 0 0=1 then (⟨l.drop 3,false⟩,⟨true,[],[],[]⟩)
 else ((dK ⟨l.drop 3,false⟩).2,⟨false,[],[],[((dK ⟨l.drop 3,false⟩).1:Int)]⟩)
def dY (l:By):Rd × Nd:=kB (cw ((l.drop 1).take 2)) (aX l).1 (aX l).2
def mi (l:By):Bool:=!(dY l).1.bad && aD (dY l).2 && decide ((aw (dY l).2).length<=232) && decide (aK (aw (dY l).2)=l)
def dO (l:By):Option Nd:=if mi l then some (dY l).2 else none
theorem eu {l:By} {n:Nd} (h:dO l=some n):aD n=true/\(aw n).length<=232/\aK (aw n)=l:=by
 unfold dO at h
 split at h
 ·rename_i hf
  injection h with h
  subst h;simp only [mi,Bt,decide_eq_true_eq] at hf;exact ⟨hf.1.1.2,hf.1.2,hf.2⟩
 ·cases h
theorem kL {n:Nat} (hn:n<=5000) (z:By):bK ⟨bD n ++ z,false⟩=(n,⟨z,false⟩):=by unfold bK;simp only [yt (show n<16384 by omega)];rw [if_neg (by simp;omega)];simp
theorem kM (x z:By):cP ⟨x ++ z,false⟩ x.length=(x,⟨z,false⟩):=by unfold cP;simp
theorem qx {k:By} (hk:k.length<=64) (z:By):ep ⟨gE k ++ z,false⟩=(k,⟨z,false⟩):=by unfold ep gE;rw [Bx,kL (by omega)];exact kM k z
theorem kO {n:Nat} (hn:n<4294967296) (z:By):dK ⟨aR 4 n ++ z,false⟩=(n,⟨z,false⟩):=by have h:=kM (aR 4 n) z;rw [aF] at h;unfold dK;rw [h];simp only;rw [gU 4 n (by omega)]
theorem fw {c:Ce} (h:aI c=true) (h2:40<c.size):c.data=[]/\1<=c.page/\c.page<4096/\c.size<=5000:=by
 unfold aI at h
 split at h
 ·cases h
 ·split at h
  ·omega
  ·simp [cI] at h;exact ⟨h.1,h.2.1,h.2.2,by omega⟩
theorem fJ {c:Ce} (h:aI c=true) (h2:¬ 40<c.size):0<=c.size/\(c.data.length:Int)=c.size/\c.page=0:=by
 unfold aI at h
 split at h
 ·cases h
 ·split at h
  ·simp at h;exact ⟨by omega,h.1,h.2⟩
  ·omega
theorem ui {c:Ce} (hc:aI c=true) (z:By):ed ⟨gR c ++ z,false⟩=(c,⟨z,false⟩):=by
 obtain ⟨sz,da,pg⟩:=c;by_cases h:40<sz
 ·obtain ⟨h1,h2,h3,h4⟩:=fw hc h;simp only at h1 h2 h3 h4;subst h1;unfold ed gR;simp only;rw [if_pos h,Bx,kL (by omega)];simp only;rw [if_pos (by omega),kO (by omega)];simp only [Prod.mk.injEq,Ce.mk.injEq,and_true,true_and];omega
 ·obtain ⟨h1,h2,h3⟩:=fJ hc h;simp only at h1 h2 h3;subst h3;unfold ed gR;simp only;rw [if_neg h,Bx,kL (by omega)];simp only;rw [if_neg (by omega),show sz.toNat=da.length by omega,kM];simp only [Prod.mk.injEq,Ce.mk.injEq,and_true];omega
theorem bQ:∀ {l:List By},aH l=true->∀ k ∈ l,k.length<=64
 | [],_,k,hk=>absurd hk List.not_mem_nil
 | [a],h,k,hk=>by
   rw [List.mem_singleton.1 hk];simpa [aH] using h
 | a :: b :: r,h,k,hk=>by
   simp only [aH,Bt,decide_eq_true_eq] at h;rcases List.mem_cons.1 hk with rfl | hk
   ·exact h.1.1
   ·exact bQ h.2 k hk
theorem rm:∀ (ks:List By) (cs:List Ce) (z:By) (n:Nd),n.leaf=true->cs.length=ks.length->(∀ k ∈ ks,k.length<=64)->(∀ c ∈ cs,aI c=true)->
  kB ks.length ⟨bC ks cs ++ z,false⟩ n=(⟨z,false⟩,⟨true,n.keys ++ ks,n.cells ++ cs,n.kids⟩)
 | [],cs,z,n,hl,hn,_,_=>by
   have:cs=[]:=Bz hn;subst this;obtain ⟨nl,nk,nc,nd⟩:=n;simp only at hl;subst hl;simp [kB,bC]
 | k :: ks,[],_,_,_,hn,_,_=>by simp at hn
 | k :: ks,c :: cs,z,n,hl,hn,hk,hc=>by
   rw [BC,kB,if_neg (by simp),if_pos hl];simp only [bC];rw [show gE k ++ gR c ++ bC ks cs ++ z=gE k ++ (gR c ++ (bC ks cs ++ z)) by simp,qx (hk k Bw)];simp only;rw [ui (hc c Bw)];simp only;rw [rm ks cs z { n with keys:=n.keys ++ [k],cells:=n.cells ++ [c] } hl (by simpa using hn) (fun x hx=>hk x (Bv _ hx)) (fun x hx=>hc x (Bv _ hx))];simp
theorem oS:∀ (ks:List By) (ds:List Int) (z:By) (n:Nd),n.leaf=false->ds.length=ks.length->(∀ k ∈ ks,k.length<=64)->(∀ d ∈ ds,cI d=true)->
  kB ks.length ⟨eX ks ds ++ z,false⟩ n=(⟨z,false⟩,⟨false,n.keys ++ ks,n.cells,n.kids ++ ds⟩)
 | [],ds,z,n,hl,hn,_,_=>by
   have:ds=[]:=Bz hn;subst this;obtain ⟨nl,nk,nc,nd⟩:=n;simp only at hl;subst hl;simp [kB,eX]
 | k :: ks,[],_,_,_,hn,_,_=>by simp at hn
 | k :: ks,d :: ds,z,n,hl,hn,hk,hc=>by
   have hd:=hc d Bw;simp only [cI,Bt,decide_eq_true_eq] at hd;rw [BC,kB,if_neg (by simp),if_neg (by rw [hl];simp)];simp only [eX];rw [show gE k ++ aR 4 d.toNat ++ eX ks ds ++ z=gE k ++ (aR 4 d.toNat ++ (eX ks ds ++ z)) by simp,qx (hk k Bw)];simp only;rw [kO (by omega)];simp only;rw [oS ks ds z { n with keys:=n.keys ++ [k],kids:=n.kids ++ [(d.toNat:Int)] } hl (by simpa using hn) (fun x hx=>hk x (Bv _ hx)) (fun x hx=>hc x (Bv _ hx))];simp;omega
theorem oF:∀ (ks:List By) (cs:List Ce),cs.length=ks.length->ks.length<=(bC ks cs).length
 | [],_,_=>by simp [bC]
 | k :: ks,[],h=>by simp at h
 | k :: ks,c :: cs,h=>by
   have:=oF ks cs (by simpa using h);have h2:=dC k.length;have:1<=(bD k.length).length:=by rw [h2];split <;> omega
   simp [bC,gE];omega
theorem qZ:∀ (ks:List By) (ds:List Int),ds.length=ks.length->ks.length<=(eX ks ds).length
 | [],_,_=>by simp [eX]
 | k :: ks,[],h=>by simp at h
 | k :: ks,d :: ds,h=>by
   have:=qZ ks ds (by simpa using h);simp [eX,gE,aF];omega
theorem cD {n:Nd} (h:aD n=true) (hl:n.leaf=true):aH n.keys=true/\n.cells.length=n.keys.length/\n.kids=[]/\∀ c ∈ n.cells,aI c=true:=by unfold aD at h;rw [if_pos hl] at h;simp only [Bt,decide_eq_true_eq,BD] at h;exact ⟨h.1,h.2.1.1,h.2.1.2,h.2.2⟩
theorem aQ {n:Nd} (h:aD n=true) (hl:n.leaf=false):aH n.keys=true/\n.keys≠[]/\n.kids.length=n.keys.length+1/\n.cells=[]/\n.kids.Nodup/\∀ d ∈ n.kids,cI d=true:=by unfold aD at h;rw [if_neg (by rw [hl];simp)] at h;simp only [Bt,decide_eq_true_eq,BD,cz] at h;exact ⟨h.1,h.2.1.1.1,h.2.1.1.2,h.2.1.2,h.2.2.1,h.2.2.2⟩
theorem gP {ks:List By} {cs:List Ce} (h1:aH ks=true) (h2:cs.length=ks.length) (h3:∀ c ∈ cs,aI c=true):aD ⟨true,ks,cs,[]⟩=true:=by simp [aD,h1,h2];exact h3
theorem eS {ks:List By} {ds:List Int} (h1:aH ks=true) (h0:ks≠[]) (h2:ds.length=ks.length+1) (h3:ds.Nodup) (h4:∀ d ∈ ds,cI d=true):aD ⟨false,ks,[],ds⟩=true:=by simp [aD,h1,h2,h0,cz,h3];exact h4
theorem jE {n:Nd} (h:aD n=true):n.keys.length+3<=(aw n).length:=by
 unfold aw;cases hl:n.leaf
 ·obtain ⟨_,h0,h2,h3,_⟩:=aQ h hl;have:=qZ n.keys n.kids.tail (by rw [BE];omega);simp [aF];omega
 ·obtain ⟨_,h2,_⟩:=cD h hl;have:=oF n.keys n.cells h2;simp [aF];omega
theorem lx {l:By} (h:l.length<=232):aK l=l ++ BG (232 - l.length) 0:=by unfold aK;rw [BB h]
theorem wV {n:Nd} (h:aD n=true) (h2:(aw n).length<=232):dO (aK (aw n))=some n:=by
 have hk:=jE h;have hraw:(dY (aK (aw n))).1.bad=false/\(dY (aK (aw n))).2=n:=by
  rw [lx h2];generalize BG (232 - (aw n).length) (0:UInt8)=z;unfold dY;have hc:cw (((aw n ++ z).drop 1).take 2)=n.keys.length:=by unfold aw;rw [List.cons_append,BA,List.drop_zero,Bx,List.take_append_of_le_length (by rw [aF];omega),BB (by rw [aF];omega)];exact gU 2 _ (by omega)
  rw [hc];cases hl:n.leaf
  ·obtain ⟨hr,h0,hd,h3,h5,h6⟩:=aQ h hl;have hs:aX (aw n ++ z)=(⟨eX n.keys n.kids.tail ++ z,false⟩,⟨false,[],[],[n.kids.getD 0 0]⟩):=by
    have hd0:cI (n.kids.getD 0 0)=true:=by
     cases hkk:n.kids with
     | nil=>rw [hkk] at hd;simp at hd
     | cons a l=>exact h6 a (by rw [hkk];simp)
    simp only [cI,Bt,decide_eq_true_eq] at hd0;have hb:aw n ++ z=2 :: (aR 2 n.keys.length ++ (aR 4 (n.kids.getD 0 0).toNat ++ (eX n.keys n.kids.tail ++ z))):=by unfold aw;rw [hl];simp
    unfold aX;rw [hb];rw [if_neg (by simp)];rw [show List.drop 3 ((2:UInt8) :: (aR 2 n.keys.length ++ (aR 4 (n.kids.getD 0 0).toNat ++ (eX n.keys n.kids.tail ++ z))))=aR 4 (n.kids.getD 0 0).toNat ++ (eX n.keys n.kids.tail ++ z) by
     rw [BA,BF (aF 2 _)]]
    rw [kO (by omega)];simp only [Prod.mk.injEq,true_and,Nd.mk.injEq,List.cons.injEq,and_true];omega
   rw [hs];simp only;rw [oS n.keys n.kids.tail z ⟨false,[],[],[n.kids.getD 0 0]⟩ rfl (by rw [BE];omega) (bQ hr) (fun d hd=>h6 d (List.mem_of_mem_tail hd))];refine ⟨rfl,?_⟩;obtain ⟨nl,nk,nc,nd⟩:=n;simp only at hl h3 hd ⊢;subst hl h3;cases nd with
   | nil=>simp at hd
   | cons a l=>rfl
  ·obtain ⟨hr,h3,h4,h5⟩:=cD h hl;have hs:aX (aw n ++ z)=(⟨bC n.keys n.cells ++ z,false⟩,⟨true,[],[],[]⟩):=by
    have hb:aw n ++ z=1 :: (aR 2 n.keys.length ++ (bC n.keys n.cells ++ z)):=by unfold aw;rw [hl];simp
    unfold aX;rw [hb,if_pos (by simp),BA,BF (aF 2 _)]
   rw [hs];simp only;rw [rm n.keys n.cells z ⟨true,[],[],[]⟩ rfl h3 (bQ hr) h5];refine ⟨rfl,?_⟩;obtain ⟨nl,nk,nc,nd⟩:=n;simp only at hl h4 ⊢;subst hl h4;rfl
 unfold dO;rw [if_pos]
 ·rw [hraw.2]
 ·simp only [mi,hraw.1,hraw.2,h,h2,decide_true,Bool.not_false,Bool.and_self]
end Go.Proofs.YtknioodagnjchaaGreatDoor
