/- spare.Take over a shelf's book. -/
import Derived.Test.YtdmhbgpejppbkaaGreatZGba
import Derived.Deep.RegionWith
set_option maxRecDepth 100000
set_option maxHeartbeats 2000000
namespace Go.Proofs.YtdmhbgpejppbkaaGreat
open Go.Lib (hid)
open Go.RowKit Go.Maps
structure Hd where
 mode:Int
 pages:Int
 trunk:Int
 spare:Int
 root:Int
 change:Int
def Hd.zero:Hd:=⟨0,0,0,0,0,0⟩
def Hd.cells (h:Hd):Array Value:=#[.int .i64 h.mode,.int .i64 h.pages,.int .i64 h.trunk,.int .i64 h.spare,.int .i64 h.root,.int .u64 h.change]
def Hd.val (h:Hd):Value:=.agg h.cells
def bn (h:Hd):Obj:=.cells #[.int .i64 h.mode,.int .i64 h.pages,.int .i64 h.trunk,.int .i64 h.spare,.int .i64 h.root,.int .u64 h.change] 38 (0,0)
theorem ag {w:World} {g:Nat} {h:Hd} (hh:w.heap[g]?=some (bn h)):w.cell? ⟨g,0,none⟩=some (.int .i64 h.mode)∧w.cell? ⟨g,1,none⟩=some (.int .i64 h.pages)∧w.cell? ⟨g,2,none⟩=some (.int .i64 h.trunk)∧
  w.cell? ⟨g,3,none⟩=some (.int .i64 h.spare)∧w.cell? ⟨g,4,none⟩=some (.int .i64 h.root)∧w.cell? ⟨g,5,none⟩=some (.int .u64 h.change)∧g<w.heap.size:=
 ⟨aa hh 0,aa hh 1,aa hh 2,aa hh 3,aa hh 4,aa hh 5,af hh⟩
theorem ao {w:World} {g:Nat} {h:Hd} (hh:w.heap[g]?=some (bn h)):w.frozen? ⟨g,0,none⟩=false∧w.frozen? ⟨g,1,none⟩=false∧w.frozen? ⟨g,2,none⟩=false∧w.frozen? ⟨g,3,none⟩=false∧w.frozen? ⟨g,4,none⟩=false∧w.frozen? ⟨g,5,none⟩=false:=
 ⟨ab hh 0,ab hh 1,ab hh 2,ab hh 3,ab hh 4,ab hh 5⟩
def cB (w:World) (g:Nat) (h:Hd):World:=(((((w.setCell ⟨g,0,none⟩ (.int .i64 h.mode)).setCell ⟨g,1,none⟩ (.int .i64 h.pages)).setCell ⟨g,2,none⟩ (.int .i64 h.trunk)).setCell ⟨g,3,none⟩ (.int .i64 h.spare)).setCell ⟨g,4,none⟩ (.int .i64 h.root)).setCell ⟨g,5,none⟩ (.int .u64 h.change)
theorem bU {w:World} {g:Nat} {h0:Hd} (hh:w.heap[g]?=some (bn h0)) (h:Hd):(cB w g h).heap[g]?=some (bn h):=ae (ae (ae (ae (ae (ae hh 0 _) 1 _) 2 _) 3 _) 4 _) 5 _
theorem aZ {S:Nat→Prop} {a w:World} {g:Nat} (hc:Ch S a w) (hg:S g) (h:Hd):Ch S a (cB w g h):=
 (((((hc.setCell (p:=⟨g,0,none⟩) hg _).setCell (p:=⟨g,1,none⟩) hg _).setCell (p:=⟨g,2,none⟩) hg _).setCell (p:=⟨g,3,none⟩) hg _).setCell (p:=⟨g,4,none⟩) hg _).setCell (p:=⟨g,5,none⟩) hg _
theorem Own.cap {α:Type} {f:α→List Value} {size:Nat} {e:TypeId} {base:Nat} {w:World} {A:Option Addr} {n c:Nat} {xs:List α} (h:Own f size e base w (.slice A n c) xs):n≤c:=by
 rcases h.2 with ⟨hv,h0⟩ | ⟨g,cap,cur,hv,_,_,hn,_⟩
 ·injection hv with _ h1 h2;omega
 ·injection hv with _ h1 h2;omega
theorem Sl.take {α:Type} {f:α→List Value} {size:Nat} {w:World} {a:Addr} {n c:Nat} {xs:List α} (h:Sl f size w (.slice (some a) n c) xs) (k:Nat) (hk:k≤xs.length):Sl f size w (.slice (some a) k c) (xs.take k):=by
 obtain ⟨A,c',he,hx⟩:=h;injection he with h1 h2 h3
 subst h1 h3;refine ⟨some a,c,by rw [List.length_take,Nat.min_eq_left hk],fun hne=>?_⟩;obtain ⟨b,off,e1,hlt,hcs⟩:=hx (fun e=>hne (by rw [e];simp));refine ⟨b,off,e1,hlt,fun i x hx j u hu=>hcs i x ?_ j u hu⟩;rw [List.getElem?_take] at hx
 split at hx
 ·exact hx
 ·cases hx
theorem hO {t:Tk} (h:aT t=false) (k:Nat):aT ⟨t.next,t.list.take k⟩=false:=by
 unfold aT at h ⊢;rw [Bool.or_eq_false_iff,Bool.or_eq_false_iff] at h ⊢;obtain ⟨⟨h1,h2⟩,h3⟩:=h;refine ⟨⟨h1,?_⟩,?_⟩
 ·simp at h2 ⊢;omega
 ·rw [List.any_eq_false] at h3 ⊢;exact fun x hx=>h3 x (List.mem_of_mem_take hx)
theorem dg {l:List UInt8} (h:bZ l=true):aT (bE l)=false:=by unfold bZ at h;simp at h;exact h.1
structure Taken where
 n:Int
 h:Hd
 e:Int
 B:Int→List UInt8
def aM (B:Int→List UInt8) (e:Int):Taken:=⟨0,Hd.zero,e,B⟩
def bG (t:Tk) (pages:Int):Bool:=decide (pages≤t.next) || (decide (0<t.list.length) && decide (pages≤t.list.getD (t.list.length - 1) 0))
def am (h:Hd) (B:Int→List UInt8):Taken:=
 if h.spare=0 then if 4096≤h.pages then aM B 22 else ⟨h.pages,{ h with pages:=h.pages+1 },0,B⟩
 else if bZ (B h.trunk)=false then aM B 30
 else
  let t:=bE (B h.trunk)
  if bG t h.pages then aM B 30
  else if 0<t.list.length then ⟨t.list.getD (t.list.length - 1) 0,{ h with spare:=h.spare - 1 },0,aY B h.trunk (aC (cC ⟨t.next,t.list.take (t.list.length - 1)⟩))⟩
  else if ((t.next == 0) != (h.spare == 1)) then aM B 30
  else ⟨h.trunk,{ h with trunk:=t.next,spare:=h.spare - 1 },0,B⟩
structure Hd.Ok (h:Hd):Prop where
 p1:1≤h.pages
 p2:h.pages≤4096
 t0:0≤h.trunk
 t1:h.trunk<4096
 s0:0≤h.spare
 s1:h.spare≤4096
theorem aX {w:World} {g:Nat} {o:Obj} (h:w.heap[g]?=some o) {a:Addr} (hn:a.block≠g) (u:Value):(w.setCell a u).heap[g]?=some o:=(Below.heap_setCell _ _ _ _ (fun e=>hn e.symm)).trans h
theorem bv {w w1:World} {gm rx:Nat} {B:Int→List UInt8} {h0:Hd} (hw:Below w.heap.size w w1) (hb:BookIs w1 gm B) (hr:w1.heap[rx]?=some (bn h0)) (hrx:w.heap.size≤rx) (hg:gm<w.heap.size) (h:Hd):
  (cB w1 rx h).heap[rx]?=some (bn h)∧BookIs (cB w1 rx h) gm B∧Ch (fun k=>k=gm) w (cB w1 rx h):=
 ⟨bU hr h,hb.ch (aZ (Ch.refl (fun j=>j=rx) w1) rfl h) (by omega),(Ch.of_below hw).then (aZ (Ch.refl (fun j=>j=rx) w1) rfl h) (fun i e=>.inr (by omega))⟩
theorem eu {w w1:World} {gm rx:Nat} {B:Int→List UInt8} {h0:Hd} (hw:Ch (fun k=>k=gm) w w1) (hb:BookIs w1 gm B) (hr:w1.heap[rx]?=some (bn h0)) (hrx:w.heap.size≤rx) (hg:gm<w.heap.size) (h:Hd):
  (cB w1 rx h).heap[rx]?=some (bn h)∧BookIs (cB w1 rx h) gm B∧Ch (fun k=>k=gm) w (cB w1 rx h):=
 ⟨bU hr h,hb.ch (aZ (Ch.refl (fun j=>j=rx) w1) rfl h) (by omega),hw.then (aZ (Ch.refl (fun j=>j=rx) w1) rfl h) (fun i e=>.inr (by omega))⟩
theorem cM (h:Hd) (gm:Nat) (B:Int→List UInt8) (w:World) (hb:BookIs w gm B) (hl:∀ n,(B n).length=232) (hk:h.Ok):
  Calls Tryz.prog 88 #[.agg #[.int .i64 h.mode,.int .i64 h.pages,.int .i64 h.trunk,.int .i64 h.spare,.int .i64 h.root,.int .u64 h.change],.iface 103 (.map (some gm))] w
   fun e w'=>e=.returned (.tuple #[.int .i64 (am h B).n,(am h B).h.val,.int .i64 (am h B).e])∧BookIs w' gm (am h B).B∧Ch (fun k=>k=gm) w w':=by
 have HH:=hid hb;have hgm:=hb.lt;clear hb;obtain ⟨hm,hp,ht,hs,hr,hc⟩:=h;obtain ⟨k1,k2,k3,k4,k5,k6⟩:=hk;simp only at k1 k2 k3 k4 k5 k6;go_enter Tryz.func88,Tryz.ntmps88;go_upto_region 1 with fail
 have HX1:=hid (aj (ah (w0:=w) (g:=w.heap.size) (o:=bn ⟨hm,hp,ht,hs,hr,hc⟩) rfl) (bn Hd.zero));have HR1:=hid (ah (w0:=w.alloc (bn ⟨hm,hp,ht,hs,hr,hc⟩)) (g:=w.heap.size+1) (o:=bn Hd.zero) (by simp));have HW1:=hid (((Below.refl _ w).alloc (Nat.le_refl _) (bn ⟨hm,hp,ht,hs,hr,hc⟩)).alloc (by simp) (bn Hd.zero));have HH1:=hid (HH.out.ch (Ch.of_below (S:=fun _=>False) HW1.out) id);generalize hw1:(w.alloc (.cells #[.int .i64 hm,.int .i64 hp,.int .i64 ht,.int .i64 hs,.int .i64 hr,.int .u64 hc] 38)).alloc (.cells #[.int .i64 0,.int .i64 0,.int .i64 0,.int .i64 0,.int .i64 0,.int .u64 0] 38)=w1 at *;have hw2:(w.alloc (bn ⟨hm,hp,ht,hs,hr,hc⟩)).alloc (bn Hd.zero)=w1:=hw1;rw [hw2] at HX1 HR1 HW1 HH1;clear hw1 hw2;obtain ⟨a0,a1,a2,a3,a4,a5,a6⟩:=ag HX1.out;obtain ⟨b0,b1,b2,b3,b4,b5⟩:=ao HX1.out;obtain ⟨c0,c1,c2,c3,c4,c5,c6⟩:=ag HR1.out;obtain ⟨d0,d1,d2,d3,d4,d5⟩:=ao HR1.out;simp only [Hd.zero] at a0 a1 a2 a3 a4 a5 c0 c1 c2 c3 c4 c5;by_cases h0:hs=0
 ·subst h0;by_cases hp4:4096≤hp
  ·have HT:=hid (show am ⟨hm,hp,ht,0,hr,hc⟩ B=aM B 22 by simp [am,hp4]);go_wp2_with fail;have HF:=hid (bv HW1.out HH1.out HR1.out (Nat.le_succ _) (by omega) ⟨0,0,0,0,0,0⟩);obtain ⟨q0,q1,q2,q3,q4,q5,q6⟩:=ag HF.out.1;generalize hwf:cB (w1) (w.heap.size+1) ⟨0,0,0,0,0,0⟩=wf at *;have hwf2:((((((w1).setCell ⟨w.heap.size+1,0,none⟩ (.int .i64 (0))).setCell ⟨w.heap.size+1,1,none⟩ (.int .i64 (0))).setCell ⟨w.heap.size+1,2,none⟩ (.int .i64 (0))).setCell ⟨w.heap.size+1,3,none⟩ (.int .i64 (0))).setCell ⟨w.heap.size+1,4,none⟩ (.int .i64 (0))).setCell ⟨w.heap.size+1,5,none⟩ (.int .u64 (0))=wf:=hwf;rw [hwf2];exact bodyPost_ret (v:=.tuple #[.int .i64 (0),.agg #[.int .i64 (0),.int .i64 (0),.int .i64 (0),.int .i64 (0),.int .i64 (0),.int .u64 (0)],.int .i64 (22)]) (by simp [results,Tryz.results88,go_sem,q0,q1,q2,q3,q4,q5]) rfl ⟨by rw [HT.out];rfl,by rw [HT.out];exact HF.out.2.1.block rfl,⟨HF.out.2.2.os,HF.out.2.2.tape,HF.out.2.2.output,HF.out.2.2.size,HF.out.2.2.block⟩⟩
  ·have HT:=hid (show am ⟨hm,hp,ht,0,hr,hc⟩ B=⟨hp,⟨hm,hp+1,ht,0,hr,hc⟩,0,B⟩ by simp [am,hp4]);have hp5:hp<4096:=by omega
   go_wp2_with fail;go_region
   all_goals
    go_wp2_with fail;have HF:=hid (bv (HW1.out.setCell (p:=⟨w.heap.size,1,none⟩) (Nat.le_refl _) (.int .i64 (hp+1))) (HH1.out.ch ((Ch.refl (fun j=>j=w.heap.size) w1).setCell (p:=⟨w.heap.size,1,none⟩) rfl (.int .i64 (hp+1))) (by omega)) (aX HR1.out (a:=⟨w.heap.size,1,none⟩) (by simp) (.int .i64 (hp+1))) (Nat.le_succ _) (by omega) ⟨hm,hp+1,ht,0,hr,hc⟩);obtain ⟨q0,q1,q2,q3,q4,q5,q6⟩:=ag HF.out.1;generalize hwf:cB (w1.setCell ⟨w.heap.size,1,none⟩ (.int .i64 (hp+1))) (w.heap.size+1) ⟨hm,hp+1,ht,0,hr,hc⟩=wf at *;have hwf2:((((((w1.setCell ⟨w.heap.size,1,none⟩ (.int .i64 (hp+1))).setCell ⟨w.heap.size+1,0,none⟩ (.int .i64 (hm))).setCell ⟨w.heap.size+1,1,none⟩ (.int .i64 (hp+1))).setCell ⟨w.heap.size+1,2,none⟩ (.int .i64 (ht))).setCell ⟨w.heap.size+1,3,none⟩ (.int .i64 (0))).setCell ⟨w.heap.size+1,4,none⟩ (.int .i64 (hr))).setCell ⟨w.heap.size+1,5,none⟩ (.int .u64 (hc))=wf:=hwf;rw [hwf2];exact bodyPost_ret (v:=.tuple #[.int .i64 (hp),.agg #[.int .i64 (hm),.int .i64 (hp+1),.int .i64 (ht),.int .i64 (0),.int .i64 (hr),.int .u64 (hc)],.int .i64 (0)]) (by simp [results,Tryz.results88,go_sem,q0,q1,q2,q3,q4,q5]) rfl ⟨by rw [HT.out];rfl,by rw [HT.out];exact HF.out.2.1.block rfl,⟨HF.out.2.2.os,HF.out.2.2.tape,HF.out.2.2.output,HF.out.2.2.size,HF.out.2.2.block⟩⟩
 ·have h01:(hs == 0)=false:=by simpa using h0
  have hs2:¬ hs=0:=h0;go_wp2_with fail;refine (jc ht gm B w1 HH1.out (gL k3 k4) (hl ht)).mono ?_;obtain ⟨⟨tn,tl⟩,hT⟩:∃ T,bf (B ht)=T:=⟨_,rfl⟩;obtain ⟨te,hte⟩:∃ te,cL (B ht)=te:=⟨_,rfl⟩;rw [hT,hte];have HTT:=hid hT;have HTE:=hid hte;clear hT hte;rintro e w2 ⟨v,rfl,⟨lv,rfl,ho⟩,hb⟩;simp only at ho;have hgb:w1.heap.size≤w2.heap.size:=hb.size;obtain ⟨A,c,rfl⟩:=Sl.len' (ho.sl bt);have HX3:=hid (aj (aw HX1.out hb) (.cells #[.int .i64 tn,.slice A tl.length c] 164));have HR3:=hid (aj (aw HR1.out hb) (.cells #[.int .i64 tn,.slice A tl.length c] 164));have HW2:=HW1.out.trans (hb.mono HW1.out.size);have HW3:=hid (HW2.alloc HW2.size (.cells #[.int .i64 tn,.slice A tl.length c] 164));have HH3:=hid ((HH1.out.ch (Ch.of_below (S:=fun _=>False) hb) id).ch (Ch.alloc (Ch.refl (fun _=>False) w2) (.cells #[.int .i64 tn,.slice A tl.length c] 164)) id);have HO3:=hid (ho.alloc (.cells #[.int .i64 tn,.slice A tl.length c] 164));have HG3:=hid (ah (w0:=w2) (g:=w2.heap.size) (o:=.cells #[.int .i64 tn,.slice A tl.length c] 164) rfl);have hg2:w.heap.size+1<w2.heap.size:=by have:=af HR1.out;omega
  clear hb ho HW2 a0 a1 a2 a3 a4 a5 b0 b1 b2 b3 b4 b5 c0 c1 c2 c3 c4 c5 d0 d1 d2 d3 d4 d5;go_upto_region 7 with fail
  generalize w2.alloc (.cells #[.int .i64 tn,.slice A tl.length c] 164)=w3 at *;generalize w2.heap.size=g2 at *;obtain ⟨a0,a1,a2,a3,a4,a5,a7⟩:=ag HX3.out;obtain ⟨b0,b1,b2,b3,b4,b5⟩:=ao HX3.out;obtain ⟨c0,c1,c2,c3,c4,c5,c7⟩:=ag HR3.out;obtain ⟨d0,d1,d2,d3,d4,d5⟩:=ao HR3.out;obtain ⟨t0,t1,t2,t3,t4⟩:=bj HG3.out;simp only [Hd.zero] at a0 a1 a2 a3 a4 a5 c0 c1 c2 c3 c4 c5;cases hd:bZ (B ht)
  ·have HT:=hid (show am ⟨hm,hp,ht,hs,hr,hc⟩ B=aM B 30 by simp [am,h0,hd]);obtain rfl:te=30:=by rw [← HTE.out];simp [cL,hd]
   clear HTE;go_wp2_with fail;have HF:=hid (bv HW3.out HH3.out HR3.out (Nat.le_succ _) (by omega) ⟨0,0,0,0,0,0⟩);obtain ⟨q0,q1,q2,q3,q4,q5,q6⟩:=ag HF.out.1;generalize hwf:cB (w3) (w.heap.size+1) ⟨0,0,0,0,0,0⟩=wf at *;have hwf2:((((((w3).setCell ⟨w.heap.size+1,0,none⟩ (.int .i64 (0))).setCell ⟨w.heap.size+1,1,none⟩ (.int .i64 (0))).setCell ⟨w.heap.size+1,2,none⟩ (.int .i64 (0))).setCell ⟨w.heap.size+1,3,none⟩ (.int .i64 (0))).setCell ⟨w.heap.size+1,4,none⟩ (.int .i64 (0))).setCell ⟨w.heap.size+1,5,none⟩ (.int .u64 (0))=wf:=hwf;rw [hwf2];exact bodyPost_ret (v:=.tuple #[.int .i64 (0),.agg #[.int .i64 (0),.int .i64 (0),.int .i64 (0),.int .i64 (0),.int .i64 (0),.int .u64 (0)],.int .i64 (30)]) (by simp [results,Tryz.results88,go_sem,q0,q1,q2,q3,q4,q5]) rfl ⟨by rw [HT.out];rfl,by rw [HT.out];exact HF.out.2.1.block rfl,⟨HF.out.2.2.os,HF.out.2.2.tape,HF.out.2.2.output,HF.out.2.2.size,HF.out.2.2.block⟩⟩
  ·obtain rfl:te=0:=by rw [← HTE.out];simp [cL,hd]
   have HDP:=hid (show bE (B ht)=⟨tn,tl⟩ by rw [← HTT.out];simp [bf,hd]);clear HTE HTT;have HTR:=hid (show am ⟨hm,hp,ht,hs,hr,hc⟩ B=if bG ⟨tn,tl⟩ hp then aM B 30 else if 0<tl.length then ⟨tl.getD (tl.length - 1) 0,⟨hm,hp,ht,hs - 1,hr,hc⟩,0,aY B ht (aC (cC ⟨tn,tl.take (tl.length - 1)⟩))⟩ else if ((tn == 0) != (hs == 1)) then aM B 30 else ⟨ht,⟨hm,hp,tn,hs - 1,hr,hc⟩,0,B⟩ by simp only [am,h0,hd,HDP.out];rfl);have HBD:=hid (show aT ⟨tn,tl⟩=false by have:=dg hd;rw [HDP.out] at this;exact this);by_cases h1:hp≤tn
   ·have HT:=hid (show am ⟨hm,hp,ht,hs,hr,hc⟩ B=aM B 30 by rw [HTR.out,if_pos (by simp [bG,h1])]);have h1b:decide (hp≤tn)=true:=decide_eq_true h1;go_upto_region 11 with fail
    go_region
    all_goals
     go_wp2_with fail;have HF:=hid (bv HW3.out HH3.out HR3.out (Nat.le_succ _) (by omega) ⟨0,0,0,0,0,0⟩);obtain ⟨q0,q1,q2,q3,q4,q5,q6⟩:=ag HF.out.1;generalize hwf:cB (w3) (w.heap.size+1) ⟨0,0,0,0,0,0⟩=wf at *;have hwf2:((((((w3).setCell ⟨w.heap.size+1,0,none⟩ (.int .i64 (0))).setCell ⟨w.heap.size+1,1,none⟩ (.int .i64 (0))).setCell ⟨w.heap.size+1,2,none⟩ (.int .i64 (0))).setCell ⟨w.heap.size+1,3,none⟩ (.int .i64 (0))).setCell ⟨w.heap.size+1,4,none⟩ (.int .i64 (0))).setCell ⟨w.heap.size+1,5,none⟩ (.int .u64 (0))=wf:=hwf;rw [hwf2];exact bodyPost_ret (v:=.tuple #[.int .i64 (0),.agg #[.int .i64 (0),.int .i64 (0),.int .i64 (0),.int .i64 (0),.int .i64 (0),.int .u64 (0)],.int .i64 (30)]) (by simp [results,Tryz.results88,go_sem,q0,q1,q2,q3,q4,q5]) rfl ⟨by rw [HT.out];rfl,by rw [HT.out];exact HF.out.2.1.block rfl,⟨HF.out.2.2.os,HF.out.2.2.tape,HF.out.2.2.output,HF.out.2.2.size,HF.out.2.2.block⟩⟩
   ·have h1b:decide (hp≤tn)=false:=decide_eq_false h1;have h1c:tn<hp:=by omega
    rcases Nat.eq_zero_or_pos tl.length with hz | hz
    ·have htl:tl=[]:=List.length_eq_zero_iff.1 hz;subst htl;rw [if_neg (by simp [bG,h1]),if_neg (by simp)] at HTR;go_upto_region 11 with fail
     go_region
     all_goals
      have hs1:(1:Int)≤hs:=by omega
      have HW4:=hid (HW3.out.setCell (p:=⟨w.heap.size,2,none⟩) (Nat.le_refl _) (.int .i64 tn));have HH4:=hid (HH3.out.ch ((Ch.refl (fun j=>j=w.heap.size) w3).setCell (p:=⟨w.heap.size,2,none⟩) rfl (.int .i64 tn)) (by omega));have HR4:=hid (aX HR3.out (a:=⟨w.heap.size,2,none⟩) (by simp) (.int .i64 tn));have HW5:=hid (HW4.out.setCell (p:=⟨w.heap.size,3,none⟩) (Nat.le_refl _) (.int .i64 (hs - 1)));have HH5:=hid (HH4.out.ch ((Ch.refl (fun j=>j=w.heap.size) _).setCell (p:=⟨w.heap.size,3,none⟩) rfl (.int .i64 (hs - 1))) (by omega));have HR5:=hid (aX HR4.out (a:=⟨w.heap.size,3,none⟩) (by simp) (.int .i64 (hs - 1)));rcases Bool.eq_false_or_eq_true (tn == 0) with g1 | g1 <;> rcases Bool.eq_false_or_eq_true (hs == 1) with g3 | g3
      ·have HT:=hid (show am ⟨hm,hp,ht,hs,hr,hc⟩ B=⟨ht,⟨hm,hp,tn,hs - 1,hr,hc⟩,0,B⟩ by rw [HTR.out,g1,g3];simp);go_wp2_with fail;go_region
       all_goals
        go_wp2_with fail;have HF:=hid (bv HW5.out HH5.out HR5.out (Nat.le_succ _) (by omega) ⟨hm,hp,tn,hs - 1,hr,hc⟩);obtain ⟨q0,q1,q2,q3,q4,q5,q6⟩:=ag HF.out.1;generalize hwf:cB ((w3.setCell ⟨w.heap.size,2,none⟩ (.int .i64 tn)).setCell ⟨w.heap.size,3,none⟩ (.int .i64 (hs - 1))) (w.heap.size+1) ⟨hm,hp,tn,hs - 1,hr,hc⟩=wf at *;have hwf2:(((((((w3.setCell ⟨w.heap.size,2,none⟩ (.int .i64 tn)).setCell ⟨w.heap.size,3,none⟩ (.int .i64 (hs - 1))).setCell ⟨w.heap.size+1,0,none⟩ (.int .i64 (hm))).setCell ⟨w.heap.size+1,1,none⟩ (.int .i64 (hp))).setCell ⟨w.heap.size+1,2,none⟩ (.int .i64 (tn))).setCell ⟨w.heap.size+1,3,none⟩ (.int .i64 (hs - 1))).setCell ⟨w.heap.size+1,4,none⟩ (.int .i64 (hr))).setCell ⟨w.heap.size+1,5,none⟩ (.int .u64 (hc))=wf:=hwf;rw [hwf2];exact bodyPost_ret (v:=.tuple #[.int .i64 (ht),.agg #[.int .i64 (hm),.int .i64 (hp),.int .i64 (tn),.int .i64 (hs - 1),.int .i64 (hr),.int .u64 (hc)],.int .i64 (0)]) (by simp [results,Tryz.results88,go_sem,q0,q1,q2,q3,q4,q5]) rfl ⟨by rw [HT.out];rfl,by rw [HT.out];exact HF.out.2.1.block rfl,⟨HF.out.2.2.os,HF.out.2.2.tape,HF.out.2.2.output,HF.out.2.2.size,HF.out.2.2.block⟩⟩
      ·have HT:=hid (show am ⟨hm,hp,ht,hs,hr,hc⟩ B=aM B 30 by rw [HTR.out,g1,g3];simp);go_wp2_with fail;have HF:=hid (bv HW4.out HH4.out HR4.out (Nat.le_succ _) (by omega) ⟨0,0,0,0,0,0⟩);obtain ⟨q0,q1,q2,q3,q4,q5,q6⟩:=ag HF.out.1;generalize hwf:cB (w3.setCell ⟨w.heap.size,2,none⟩ (.int .i64 tn)) (w.heap.size+1) ⟨0,0,0,0,0,0⟩=wf at *;have hwf2:((((((w3.setCell ⟨w.heap.size,2,none⟩ (.int .i64 tn)).setCell ⟨w.heap.size+1,0,none⟩ (.int .i64 (0))).setCell ⟨w.heap.size+1,1,none⟩ (.int .i64 (0))).setCell ⟨w.heap.size+1,2,none⟩ (.int .i64 (0))).setCell ⟨w.heap.size+1,3,none⟩ (.int .i64 (0))).setCell ⟨w.heap.size+1,4,none⟩ (.int .i64 (0))).setCell ⟨w.heap.size+1,5,none⟩ (.int .u64 (0))=wf:=hwf;rw [hwf2];exact bodyPost_ret (v:=.tuple #[.int .i64 (0),.agg #[.int .i64 (0),.int .i64 (0),.int .i64 (0),.int .i64 (0),.int .i64 (0),.int .u64 (0)],.int .i64 (30)]) (by simp [results,Tryz.results88,go_sem,q0,q1,q2,q3,q4,q5]) rfl ⟨by rw [HT.out];rfl,by rw [HT.out];exact HF.out.2.1.block rfl,⟨HF.out.2.2.os,HF.out.2.2.tape,HF.out.2.2.output,HF.out.2.2.size,HF.out.2.2.block⟩⟩
      ·have HT:=hid (show am ⟨hm,hp,ht,hs,hr,hc⟩ B=aM B 30 by rw [HTR.out,g1,g3];simp);go_wp2_with fail;have HF:=hid (bv HW4.out HH4.out HR4.out (Nat.le_succ _) (by omega) ⟨0,0,0,0,0,0⟩);obtain ⟨q0,q1,q2,q3,q4,q5,q6⟩:=ag HF.out.1;generalize hwf:cB (w3.setCell ⟨w.heap.size,2,none⟩ (.int .i64 tn)) (w.heap.size+1) ⟨0,0,0,0,0,0⟩=wf at *;have hwf2:((((((w3.setCell ⟨w.heap.size,2,none⟩ (.int .i64 tn)).setCell ⟨w.heap.size+1,0,none⟩ (.int .i64 (0))).setCell ⟨w.heap.size+1,1,none⟩ (.int .i64 (0))).setCell ⟨w.heap.size+1,2,none⟩ (.int .i64 (0))).setCell ⟨w.heap.size+1,3,none⟩ (.int .i64 (0))).setCell ⟨w.heap.size+1,4,none⟩ (.int .i64 (0))).setCell ⟨w.heap.size+1,5,none⟩ (.int .u64 (0))=wf:=hwf;rw [hwf2];exact bodyPost_ret (v:=.tuple #[.int .i64 (0),.agg #[.int .i64 (0),.int .i64 (0),.int .i64 (0),.int .i64 (0),.int .i64 (0),.int .u64 (0)],.int .i64 (30)]) (by simp [results,Tryz.results88,go_sem,q0,q1,q2,q3,q4,q5]) rfl ⟨by rw [HT.out];rfl,by rw [HT.out];exact HF.out.2.1.block rfl,⟨HF.out.2.2.os,HF.out.2.2.tape,HF.out.2.2.output,HF.out.2.2.size,HF.out.2.2.block⟩⟩
      ·have HT:=hid (show am ⟨hm,hp,ht,hs,hr,hc⟩ B=⟨ht,⟨hm,hp,tn,hs - 1,hr,hc⟩,0,B⟩ by rw [HTR.out,g1,g3];simp);go_wp2_with fail;go_region
       all_goals
        go_wp2_with fail;have HF:=hid (bv HW5.out HH5.out HR5.out (Nat.le_succ _) (by omega) ⟨hm,hp,tn,hs - 1,hr,hc⟩);obtain ⟨q0,q1,q2,q3,q4,q5,q6⟩:=ag HF.out.1;generalize hwf:cB ((w3.setCell ⟨w.heap.size,2,none⟩ (.int .i64 tn)).setCell ⟨w.heap.size,3,none⟩ (.int .i64 (hs - 1))) (w.heap.size+1) ⟨hm,hp,tn,hs - 1,hr,hc⟩=wf at *;have hwf2:(((((((w3.setCell ⟨w.heap.size,2,none⟩ (.int .i64 tn)).setCell ⟨w.heap.size,3,none⟩ (.int .i64 (hs - 1))).setCell ⟨w.heap.size+1,0,none⟩ (.int .i64 (hm))).setCell ⟨w.heap.size+1,1,none⟩ (.int .i64 (hp))).setCell ⟨w.heap.size+1,2,none⟩ (.int .i64 (tn))).setCell ⟨w.heap.size+1,3,none⟩ (.int .i64 (hs - 1))).setCell ⟨w.heap.size+1,4,none⟩ (.int .i64 (hr))).setCell ⟨w.heap.size+1,5,none⟩ (.int .u64 (hc))=wf:=hwf;rw [hwf2];exact bodyPost_ret (v:=.tuple #[.int .i64 (ht),.agg #[.int .i64 (hm),.int .i64 (hp),.int .i64 (tn),.int .i64 (hs - 1),.int .i64 (hr),.int .u64 (hc)],.int .i64 (0)]) (by simp [results,Tryz.results88,go_sem,q0,q1,q2,q3,q4,q5]) rfl ⟨by rw [HT.out];rfl,by rw [HT.out];exact HF.out.2.1.block rfl,⟨HF.out.2.2.os,HF.out.2.2.tape,HF.out.2.2.output,HF.out.2.2.size,HF.out.2.2.block⟩⟩
    ·obtain ⟨m,hm1⟩:∃ m,tl.length=m+1:=⟨tl.length - 1,by omega⟩;have hml:m<tl.length:=by omega
     have hl1:(tl.length:Int) - 1=(m:Int):=by omega
     have hl2:(0:Int)≤(m:Int):=by omega
     have hl2b:decide ((0:Int)≤(m:Int))=true:=decide_eq_true hl2;have hl3:(m:Int)<(tl.length:Int):=by omega
     have hcap:tl.length≤c:=HO3.out.cap;have hl5:(tl.length:Int)≤50:=by have:=(eZ HBD.out).2.2.1;simp only at this;omega
     have hl6:(m:Int)≤50:=by omega
     have hl4:(m:Int)≤(c:Int):=by omega
     have HM:=hid (show tl.length - 1=m by omega);obtain ⟨b,off,c',he,hbl,hcs⟩:=(HO3.out.sl bt).at1 hml;injection he with he1 he2 he3
     subst he1 he3;have e0:w3.cell? ⟨b,off+m,none⟩=some (.int .i64 tl[m]):=by simpa using hcs 0 _ rfl
     have HTK:=hid ((HO3.out.sl bt).take m (by omega));have HLE:=hid (show (tl.take m).length≤1000000 by
      have:=(eZ HBD.out).2.2.1;simp only at this;rw [List.length_take];omega)
     have HGD:=hid (show tl.getD m 0=tl[m] by simp [hml]);have HB6:=hid (hO HBD.out m);have HPZ:=hid (show decide (0<tl.length)=true from decide_eq_true hz);rw [HM.out,HGD.out] at HTR;rw [if_pos hz] at HTR;clear hcs hm1 hz;generalize tl[m]=x at *;by_cases h2:hp≤x
     ·have HT:=hid (show am ⟨hm,hp,ht,hs,hr,hc⟩ B=aM B 30 by
       rw [HTR.out,if_pos];unfold bG;simp only [h1b,HPZ.out,HM.out,HGD.out,decide_eq_true h2];rfl)
      have h2b:decide (hp≤x)=true:=decide_eq_true h2;go_upto_region 11 with fail
      go_region
      all_goals
       go_wp2_with fail;have HF:=hid (bv HW3.out HH3.out HR3.out (Nat.le_succ _) (by omega) ⟨0,0,0,0,0,0⟩);obtain ⟨q0,q1,q2,q3,q4,q5,q6⟩:=ag HF.out.1;generalize hwf:cB (w3) (w.heap.size+1) ⟨0,0,0,0,0,0⟩=wf at *;have hwf2:((((((w3).setCell ⟨w.heap.size+1,0,none⟩ (.int .i64 (0))).setCell ⟨w.heap.size+1,1,none⟩ (.int .i64 (0))).setCell ⟨w.heap.size+1,2,none⟩ (.int .i64 (0))).setCell ⟨w.heap.size+1,3,none⟩ (.int .i64 (0))).setCell ⟨w.heap.size+1,4,none⟩ (.int .i64 (0))).setCell ⟨w.heap.size+1,5,none⟩ (.int .u64 (0))=wf:=hwf;rw [hwf2];exact bodyPost_ret (v:=.tuple #[.int .i64 (0),.agg #[.int .i64 (0),.int .i64 (0),.int .i64 (0),.int .i64 (0),.int .i64 (0),.int .u64 (0)],.int .i64 (30)]) (by simp [results,Tryz.results88,go_sem,q0,q1,q2,q3,q4,q5]) rfl ⟨by rw [HT.out];rfl,by rw [HT.out];exact HF.out.2.1.block rfl,⟨HF.out.2.2.os,HF.out.2.2.tape,HF.out.2.2.output,HF.out.2.2.size,HF.out.2.2.block⟩⟩
     ·have HT:=hid (show am ⟨hm,hp,ht,hs,hr,hc⟩ B=⟨x,⟨hm,hp,ht,hs - 1,hr,hc⟩,0,aY B ht (aC (cC ⟨tn,tl.take m⟩))⟩ by
       rw [HTR.out,if_neg];unfold bG;simp only [h1b,HPZ.out,HM.out,HGD.out,decide_eq_false h2];simp)
      have h2b:decide (hp≤x)=false:=decide_eq_false h2;have hs1:(1:Int)≤hs:=by omega
      go_upto_region 11 with fail
      go_region
      all_goals
       go_upto_region 15 with fail
       have HBW:=hid (show Below w3.heap.size w3 w3.drew.drew from ((Below.refl _ w3).drew).drew);have HLB:=hid (show cT ⟨tn,tl.take m⟩ B ht=aY B ht (aC (cC ⟨tn,tl.take m⟩))∧cW ⟨tn,tl.take m⟩=0 by unfold cT cW;rw [HB6.out];exact ⟨rfl,rfl⟩);go_cut [8] from 70 to 80 (fun sv wc=>sv=.int .i64 0∧BookIs wc gm (aY B ht (aC (cC ⟨tn,tl.take m⟩)))∧wc.heap[w.heap.size]?=some (bn ⟨hm,hp,ht,hs,hr,hc⟩)∧wc.heap[w.heap.size+1]?=some (bn Hd.zero)∧Ch (fun k=>k=gm) w wc)
       case first=>
        go_region_with (go_at_call 139;refine (gO ht ⟨tn,tl.take m⟩ _ gm B w3.drew.drew (HH3.out.block rfl) k3 k4 (HTK.out.keep HBW.out) HLE.out).mono ?_;rintro e w5 ⟨rfl,hbk,hch⟩)
        all_goals
         have HM5:=hid (show BookIs w5 gm (aY B ht (aC (cC ⟨tn,tl.take m⟩)))∧w5.heap[w.heap.size]?=some (bn ⟨hm,hp,ht,hs,hr,hc⟩)∧w5.heap[w.heap.size+1]?=some (bn Hd.zero)∧Ch (fun k=>k=gm) w w5 from
          ⟨by rw [← HLB.out.1];exact hbk,hch.keep (show w3.drew.drew.heap[w.heap.size]?=_ from HX3.out) (by omega),hch.keep (show w3.drew.drew.heap[w.heap.size+1]?=_ from HR3.out) (by omega),((Ch.of_below (S:=fun k=>k=gm) HW3.out).drew.drew).trans hch⟩)
         rw [HLB.out.2];clear hbk hch;go_wp2_with fail;go_meet
         case rel=>exact ⟨rfl,HM5.out⟩
       case rest=>
        obtain ⟨rfl,hbk,hx6,hr6,hc6⟩:=hcut;have HBK:=hid hbk;have HR6:=hid hr6;have HC6:=hid hc6;have HX6:=hid hx6;clear hbk hr6 hc6 hx6 a0 a1 a2 a3 a4 a5 b0 b1 b2 b3 b4 b5 c0 c1 c2 c3 c4 c5 d0 d1 d2 d3 d4 d5 t0 t1 t2 t3 t4 e0;obtain ⟨a0,a1,a2,a3,a4,a5,a7⟩:=ag HX6.out;obtain ⟨b0,b1,b2,b3,b4,b5⟩:=ao HX6.out;obtain ⟨c0,c1,c2,c3,c4,c5,c7⟩:=ag HR6.out;obtain ⟨d0,d1,d2,d3,d4,d5⟩:=ao HR6.out;simp only [Hd.zero] at a0 a1 a2 a3 a4 a5 c0 c1 c2 c3 c4 c5;go_wp2_with fail;go_region
        all_goals
         go_wp2_with fail;have HF:=hid (eu (HC6.out.then ((Ch.refl (fun j=>j=w.heap.size) wc).setCell (p:=⟨w.heap.size,3,none⟩) rfl (.int .i64 (hs - 1))) (fun i e=>.inr (by omega))) (HBK.out.ch ((Ch.refl (fun j=>j=w.heap.size) wc).setCell (p:=⟨w.heap.size,3,none⟩) rfl (.int .i64 (hs - 1))) (by omega)) (aX HR6.out (a:=⟨w.heap.size,3,none⟩) (by simp) (.int .i64 (hs - 1))) (Nat.le_succ _) (by omega) ⟨hm,hp,ht,hs - 1,hr,hc⟩);obtain ⟨q0,q1,q2,q3,q4,q5,q6⟩:=ag HF.out.1;generalize hwf:cB (wc.setCell ⟨w.heap.size,3,none⟩ (.int .i64 (hs - 1))) (w.heap.size+1) ⟨hm,hp,ht,hs - 1,hr,hc⟩=wf at *;have hwf2:((((((wc.setCell ⟨w.heap.size,3,none⟩ (.int .i64 (hs - 1))).setCell ⟨w.heap.size+1,0,none⟩ (.int .i64 (hm))).setCell ⟨w.heap.size+1,1,none⟩ (.int .i64 (hp))).setCell ⟨w.heap.size+1,2,none⟩ (.int .i64 (ht))).setCell ⟨w.heap.size+1,3,none⟩ (.int .i64 (hs - 1))).setCell ⟨w.heap.size+1,4,none⟩ (.int .i64 (hr))).setCell ⟨w.heap.size+1,5,none⟩ (.int .u64 (hc))=wf:=hwf;rw [hwf2];exact bodyPost_ret (v:=.tuple #[.int .i64 (x),.agg #[.int .i64 (hm),.int .i64 (hp),.int .i64 (ht),.int .i64 (hs - 1),.int .i64 (hr),.int .u64 (hc)],.int .i64 (0)]) (by simp [results,Tryz.results88,go_sem,q0,q1,q2,q3,q4,q5]) rfl ⟨by rw [HT.out];rfl,by rw [HT.out];exact HF.out.2.1.block rfl,⟨HF.out.2.2.os,HF.out.2.2.tape,HF.out.2.2.output,HF.out.2.2.size,HF.out.2.2.block⟩⟩
end Go.Proofs.YtdmhbgpejppbkaaGreat
