/- pager: Back. pager: toMain where no page stands on the disk yet. -/
import Derived.Test.YtdmhbgpejppbkaaGreatZGbm
import Derived.Test.YtdmhbgpejppbkaaGreatZGaz
import Derived.RangeFuncNested
set_option maxRecDepth 100000
set_option maxHeartbeats 4000000
namespace Go.Proofs.YtdmhbgpejppbkaaGreat
open Go.Lib (hid)
open Go.RowKit Go.Maps Go.Shelf
attribute [local go_sem] Oper.semAt_some
def qZ (g:Nat):Obj:=.cells #[.map (some g)] 102 (0,0)
def sF (b off n c:Nat):Obj:=.cells #[.slice (some ⟨b,off,none⟩) n c] 75 (0,0)
def BkI (P:Pgr) (w1:World) (k n:Nat) (pre:List (Fin n)) (W:World):Prop:=(∃ K,Mrg (pre.map fun i=>P.saves.getD (k+i.1) jR) K∧K.length≤pre.length * 10000∧fI W w1.heap.size K)∧W.heap[w1.heap.size+1]?=some (qZ w1.heap.size)∧Below w1.heap.size w1 W∧w1.heap.size+3≤W.heap.size
theorem BkI.own {P:Pgr} {w1:World} {k n B:Nat} (hB:w1.heap.size+2≤B):OwnFrom B (BkI P w1 k n):=fun pre W W' row h hg hr=>by
 obtain ⟨⟨K,h1,h2,h3⟩,h4,h5,h6⟩:=h;have hc:Ch (fun j=>B≤j) W W':=Ch.of_grown hg fun j hj=>(hr j hj).1
 exact ⟨⟨K,h1,h2,h3.ch hc (by omega)⟩,hc.keep h4 (by omega),h5.trans (hc.below (B:=w1.heap.size) (by have:=h5.size;omega) fun j hj=>by omega),Nat.le_trans h6 hc.size⟩
theorem Own.frozen7 {α:Type} {f:α→List Value} {size:Nat} {e:TypeId} {base:Nat} {w:World} {b n c:Nat} {xs:List α} (h:Own f size e base w (.slice (some ⟨b,0,none⟩) n c) xs) (j:Nat):w.frozen? ⟨b,j,none⟩=false:=by
 rcases h.2 with ⟨hv,_⟩ | ⟨g,cap,cur,hv,hb,hg,hn,hm,hc,ht⟩
 ·cases hv
 ·injection hv with e1 _ _
  injection e1 with e1
  injection e1 with e1 _ _
  subst e1;exact ab hg j
theorem oc (k:Nat) (w:World) {L:PgL} {P:Pgr} (h:PgIs w L P) (hu:P.Up) (hb:P.busy=true) (hcb:CanBack P k):
  Calls Tryz.prog 41 #[au L.gp,.int .i64 ((k:Int)+1)] w fun e w'=>e=.returned (.int .i64 0)∧∃ K,Mrg (P.saves.drop k).reverse K∧PTo w L (P.back k K) w':=by
 have HK:=hid hcb.lt;have HCB:=hid hcb;have hmm:=@run_makeMap Tryz.prog;clear hcb;have hA:Below w.heap.size w (w.alloc (.cells #[.bool true] 4)):=(Below.refl _ w).alloc (Nat.le_refl _) _;have hX:(w.alloc (.cells #[.bool true] 4)).heap[w.heap.size]?=some (.cells #[.bool true] 4 (0,0)):=ah rfl;have HB:=hid (aN true w.heap.size _ (h.below hA) hu (aa hX 0) (af hX));rw [hb,show fG (some true) true=0 from rfl] at HB;have HA:=hid hA;have HH:=hid h;have HU:=hid (And.intro hu hb);unfold au at *;clear h hu hb hA hX;refine (callsIn_wide (n:=7)).1 (callsIn_of_wp_marks Tryz.func41 rfl trivial ?_ rfl);simp only [Tryz.ntmps41,List.size_toArray,List.length_cons,List.length_nil,Nat.reduceAdd,Nat.reduceSub,Array.replicate_succ,Array.replicate_zero,List.push_toArray,List.append_toArray,List.nil_append,List.cons_append];refine wpIn_wide.2 ?_;go_wp2_with fail;refine HB.out.mono ?_;rintro e w1 ⟨rfl,hb1⟩;have HB1:=hid (HA.out.trans (hb1.mono HA.out.size));have HP1:=hid (HH.out.below HB1.out);have hC:=ai HP1.out.blk;have hlt:=hC.lt;obtain ⟨m,hm⟩:∃ m,P.saves.length=m+1:=⟨P.saves.length - 1,by have:=HK.out;omega⟩;obtain ⟨b,c,hv,hcc,hbl⟩:=HP1.out.sv.base hm;have c21:=hC.c21;rw [hv] at c21;have hc1:((m:Int)+1)≤(c:Int):=by omega
 have hc2:(k:Int)≤(c:Int):=by have:=HK.out;omega
 have hkm:=HK.out;have hnos:=HP1.out.ok.nos;rw [hm] at hkm hnos;have hk0:(0:Int)≤(k:Int):=by omega
 have hk1:(1:Int)≤(k:Int)+1:=by omega
 have hk2:(k:Int)+1≤(m:Int)+1:=by omega
 have hk3:(k:Int)≤(m:Int)+1:=by omega
 have hk4:(k:Int)<(m:Int)+1:=by omega
 have hwk:IntKind.i64.wrap (k:Int)=(k:Int):=by rw [IntKind.wrap_i64];omega
 have hwk1:IntKind.i64.wrap ((k:Int)+1 - 1)=(k:Int):=by rw [IntKind.wrap_i64];omega
 have hk5:¬ m<k:=by omega
 have hk6:k≤m:=by omega
 have hkd:decide ((k:Int)+1<1)=false:=decide_eq_false (by omega);have HM:=hid (And.intro hm hv);clear hb1 hC hv hm;go_wp2_with fail;refine (rZ _ _ ⟨_,_,_,rfl⟩).mono ?_;rintro e w2 ⟨rfl,rfl⟩;go_wp2_with fail;have hz0:((P.saves.map (·.head)).zip L.gs).length=P.saves.length:=by rw [List.length_zip,List.length_map,HP1.out.sv.len,Nat.min_self]
 obtain ⟨zs,hzs⟩:∃ zs,zs=((P.saves.map (·.head)).zip L.gs).drop k:=⟨_,rfl⟩;have hzl:zs.length=m+1 - k:=by rw [hzs,List.length_drop,hz0,HM.out.1]
 have HBB:=hid (show Below w1.heap.size w1 (((w1.alloc (.map #[] 0)).alloc (qZ w1.heap.size)).alloc (sF b (k * 7) (m+1 - k) (c - k))) from (((Below.refl _ w1).alloc (Nat.le_refl _) _).alloc (by simp) _).alloc (by simp;omega) _);have hsB:(((w1.alloc (.map #[] 0)).alloc (qZ w1.heap.size)).alloc (sF b (k * 7) (m+1 - k) (c - k))).heap.size=w1.heap.size+3:=by simp
 have hm0:fI (((w1.alloc (.map #[] 0)).alloc (qZ w1.heap.size)).alloc (sF b (k * 7) (m+1 - k) (c - k))) w1.heap.size []:=((MpIs.made w1).ch (S:=fun _=>False) (Ch.alloc (Ch.refl _ _) _) id).ch (S:=fun _=>False) (Ch.alloc (Ch.refl _ _) _) id;have hi0:(((w1.alloc (.map #[] 0)).alloc (qZ w1.heap.size)).alloc (sF b (k * 7) (m+1 - k) (c - k))).heap[w1.heap.size+1]?=some (qZ w1.heap.size):=aj (ah (by simp)) _;have hx0:(((w1.alloc (.map #[] 0)).alloc (qZ w1.heap.size)).alloc (sF b (k * 7) (m+1 - k) (c - k))).heap[w1.heap.size+2]?=some (sF b (k * 7) (m+1 - k) (c - k)):=ah (by simp);change Code.wp _ _ _ _ (((w1.alloc (.map #[] 0)).alloc (qZ w1.heap.size)).alloc (sF b (k * 7) (m+1 - k) (c - k)));generalize ((w1.alloc (.map #[] 0)).alloc (qZ w1.heap.size)).alloc (sF b (k * 7) (m+1 - k) (c - k))=wB at *;have hmk:m+1 - k≤16:=by omega
 have hsvs:=HP1.out.sv;rw [HM.out.2] at hsvs
 have HS:=hid (show SeqStopsK Fence.wide 5 Tryz.prog 143 #[.pointer (some ⟨w1.heap.size+2,0,none⟩)] (ux zs) (BwK w1.heap.size (w1.heap.size+2)) (fun ys=>ys=oQ zs.length zs.length (Nat.le_refl _)) (fun _=>True) zs.length wB from
  oP Fence.wide 5 trivial rfl (by omega) (w1.heap.size+2) w1.heap.size b (k * 7) (c - k) zs (by omega) wB hbl (by omega) (by rw [hzl];exact hx0) (fun i hi j u hu=>by
   have hi2:k+i<((P.saves.map (·.head)).zip L.gs).length:=by rw [hz0,HM.out.1];omega
   have e1:zs[i]=((P.saves.map (·.head)).zip L.gs)[k+i]:=by subst hzs;exact List.getElem_drop
   rw [e1] at hu;have h1:=hsvs.row7 hi2 j u hu;rw [show k * 7+i * 7+j=(k+i) * 7+j by omega];exact (HBB.out.cell (p:=⟨b,(k+i) * 7+j,none⟩) hbl).trans h1))
 have HZ:=hid (show ∀ x:Fin zs.length,∃ hx:k+x.1<P.saves.length,(P.saves.getD (k+x.1) jR)=P.saves[k+x.1]∧L.gs[k+x.1]?=some (zs[x.1]'x.2).2∧(zs[x.1]'x.2).1=P.saves[k+x.1].head from fun x=>by
  have hx:k+x.1<P.saves.length:=by have:=x.2;rw [HM.out.1];omega
  have hg:k+x.1<L.gs.length:=by rw [HP1.out.sv.len];exact hx
  have e1:zs[x.1]'x.2=((P.saves.map (·.head)).zip L.gs)[k+x.1]'(by rw [hz0];exact hx):=by subst hzs;exact List.getElem_drop
  refine ⟨hx,by rw [List.getD_eq_getElem?_getD,List.getElem?_eq_getElem hx,Option.getD_some],?_,?_⟩
  ·rw [e1,List.getElem_zip,List.getElem?_eq_getElem hg]
  ·rw [e1,List.getElem_zip,List.getElem_map])
 have HZL:=hid (And.intro hzl hz0);have HWB:=hid (And.intro hsB (And.intro hm0 (And.intro hi0 hx0)));clear hzs hzl hz0 hsB hm0 hi0 hx0 hsvs hmm;obtain ⟨act,hact⟩:∃ act:Fin zs.length→Nat→Act,act=(fun (x:Fin zs.length) (gs:Nat)=>({ tmps:=#[.pointer (some ⟨L.gp,0,none⟩),.int .i64 ((k:Int)+1),undef,undef,.int .i64 0,.int .i64 0,.pointer (some ⟨w1.heap.size+1,0,none⟩),undef,.pointer (some ⟨gs,0,none⟩),undef,undef,undef,.pointer (some ⟨L.gp,0,none⟩),.slice (some ⟨w.heap.size,0,none⟩) 1 1,.int .i64 0,.bool false,.int .i64 0,.bool false,undef,.bool false,.int .i64 ((k:Int)+1),.bool false,.bool false,.int .i64 ((k:Int)+1),.pointer (some ⟨L.gp,0,none⟩),.pointer (some ⟨L.gp,0,none⟩),.pointer (some ⟨L.gp,21,none⟩),.slice (some ⟨b,0,none⟩) (m+1) c,.int .i64 ((m:Int)+1),.bool false,.bool false,.map (some w1.heap.size),.pointer (some ⟨L.gp,0,none⟩),.pointer (some ⟨L.gp,0,none⟩),.pointer (some ⟨L.gp,21,none⟩),.slice (some ⟨b,0,none⟩) (m+1) c,.int .i64 ((k:Int)+1),.int .i64 (k:Int),.slice (some ⟨b,k * 7,none⟩) (m+1 - k) (c - k),.func (.func 143) #[] #[.pointer (some ⟨w1.heap.size+1+1,0,none⟩)],.int .i64 (x.1:Int),pq (zs[x.1]'x.2),undef,undef,undef,undef,undef,undef,undef,undef,undef,undef,undef,undef,undef,undef,undef,undef,undef,undef,undef,undef,undef,undef,undef,undef,undef,undef,undef,undef,undef,undef,undef,undef,undef,undef,undef,undef,undef,undef,undef,undef,undef,undef,undef,undef,undef,undef,undef,undef,undef,undef,undef,undef],defers:=[] }:Act)):=⟨_,rfl⟩;have HACT:=hid hact;clear hact;refine (wpIn_wide (n:=6)).1 ?_
 refine wpIn_rangeFunc_ownH rfl (by omega) (gf:=143) (lb:=#[.pointer (some ⟨w1.heap.size+2,0,none⟩)]) rfl trivial (enters_of Tryz.func143 (by kernel_rfl) rfl)
  HS.out BwK.trans (BwK.put (by have:=HWB.out.1;omega)) (Below.refl _ _) (fun _=>rfl)
  (BkI P w1 k zs.length) (fun _ _ _=>False) (BkI.own (by have:=HWB.out.1;omega)) (fun _ _ _ _ _ hs _ _=>hs) ⟨⟨[],Mrg.nil,Nat.zero_le _,HWB.out.2.1⟩,HWB.out.2.2.1,HBB.out,by rw [HWB.out.1];exact Nat.le_refl _⟩
  (fun x a' W=>∃ gs,a'=act x gs∧wB.heap.size≤gs∧W.heap[gs]?=some (oW (zs[x.1]'x.2))) ?ax ?assign ?body ?done ?stop
 case assign=>
  intro l pre x W K hI hK;unfold ux pq;have hWs:wB.heap.size≤W.heap.size:=by have:=hI.2.2.2;have:=HWB.out.1;omega
  have HAL:=hid (show Below W.heap.size W (W.alloc (oW (zs[x.1]'x.2))) from (Below.refl _ W).alloc (Nat.le_refl _) _);have HNW:=hid (show (W.alloc (oW (zs[x.1]'x.2))).heap[W.heap.size]?=some (oW (zs[x.1]'x.2)) from ah rfl);have HIW:=hid hI;clear hI;gi_wp2;obtain ⟨gs,hgs⟩:∃ gs,gs=W.heap.size:=⟨_,rfl⟩;rw [← hgs] at HNW;rw [← hgs];obtain ⟨⟨K',h1,h2,h3⟩,h4,h5,h6⟩:=HIW.out;have hbw:w1.heap.size≤W.heap.size:=h5.size;have hc:Ch (fun _=>False) W (W.alloc (oW (zs[x.1]'x.2))):=Ch.of_below HAL.out;refine hK _ _ (KeepsFrom.of_grownBy (row:=none) (World.grownBy_alloc W _ none) (fun j e=>by cases e)) ⟨HAL.out.mono hbw,fun c t e=>hc.keep e id⟩ ⟨⟨K',h1,h2,h3.ch hc id⟩,hc.keep h4 id,h5.trans (HAL.out.mono hbw),Nat.le_trans h6 hc.size⟩ ⟨gs,by rw [HACT.out];rfl,?_,HNW.out⟩;rw [hgs];exact hWs
 case ax=>
  intro x a' u W W' row h hg hr;obtain ⟨gs,e,h1,h2⟩:=h
  exact ⟨gs,e,h1,(Ch.of_grown (S:=fun j=>row=some j) hg fun j hj=>hj).keep h2 fun e2=>by
   obtain ⟨-,o,ho,hc⟩:=hr gs e2;rw [h2] at ho;injection ho with ho
   rw [← ho] at hc;cases hc⟩
 case body=>
  intro l pre x a' W hl hr hI hA hlen;obtain ⟨gs,rfl,hgs,hsb⟩:=hA;rw [HACT.out];unfold pq;dsimp only;obtain ⟨⟨K,h1,h2,h3⟩,h4,h5,h6⟩:=hI;obtain ⟨hx,hgd,hgx,-⟩:=HZ.out x
  have him:=(HP1.out.below h5).sv.im (L.gs[k+x.1]'(by rw [HP1.out.sv.len];exact hx),P.saves[k+x.1]) (by
   rw [← List.getElem_zip (h:=by rw [List.length_zip,HP1.out.sv.len,Nat.min_self];exact hx)];exact List.getElem_mem _)
  have hgx2:L.gs[k+x.1]'(by rw [HP1.out.sv.len];exact hx)=(zs[x.1]'x.2).2:=by rw [List.getElem?_eq_getElem (by rw [HP1.out.sv.len];exact hx)] at hgx;injection hgx
  simp only at him;rw [hgx2] at him;have hgo:(zs[x.1]'x.2).2<w1.heap.size:=by rw [← hgx2];exact HP1.out.sv.lt (.inr (List.getElem_mem _))
  have hlim:=HCB.out.im _ (List.getElem_mem hx);have hpl:pre.length≤16:=by have:=HZL.out.1;omega
  have HCP:=hid (oL w1.heap.size (zs[x.1]'x.2).2 W h3 him (by omega) (by omega));have d0:W.cell? ⟨w1.heap.size+1,0,none⟩=some (.map (some w1.heap.size)):=aa h4 0;have dl:=af h4;have d6:W.cell? ⟨gs,6,none⟩=some (.map (some (zs[x.1]'x.2).2)):=aa hsb 6;have dl6:=af hsb;have HI:=hid (And.intro h1 (And.intro h2 (And.intro h4 (And.intro h5 (And.intro hgd (And.intro hlim (And.intro dl h6)))))));clear h1 h2 h3 h4 h5 h6 hgx him hgx2 hgo hlim hpl hsb hgd hl hr hlen;gi_wp2_with (refine ⟨trivial,?_⟩;gi_at_call 96;refine (CallsIn.inRound l (callsIn_wide.2 HCP.out)).mono ?_;rintro e W2 ⟨rfl,K3,hp,him2,hgr⟩);obtain ⟨h1,h2,h4,h5,hgd,hlim,dl,h6⟩:=HI.out;have hc:Ch (fun j=>j=w1.heap.size) W W2:=Ch.of_grown hgr fun j hj=>by injection hj with hj;exact hj.symm
  have hb:Below w1.heap.size W W2:=(Below.refl w1.heap.size W).grown hgr h5.size fun j hj=>by injection hj with hj;omega
  refine ⟨KeepsFrom.of_grownBy hgr (fun j hj=>by injection hj with hj;have:=HWB.out.1;omega),⟨hb,fun c t e=>hc.keep e (by omega)⟩,⟨eP K K3,?_,?_,him2⟩,hc.keep h4 (by omega),h5.trans hb,Nat.le_trans h6 hc.size⟩
  ·rw [List.map_append,List.map_cons,List.map_nil];exact Mrg.snoc h1 (by rw [hgd];exact hp)
  ·have:=mr K K3;have:=hp.length_eq;rw [List.length_append];simp only [List.length_cons,List.length_nil];omega
 case stop=> rintro D c pre W _ _ h _;exact h.elim
 case done=>
  intro D ys W hDw hys hI hD;subst hys;obtain ⟨⟨K,h1,h2,h3⟩,h4,h5,h6⟩:=hI;have hzd:zs.length=(P.saves.drop k).length:=by rw [List.length_drop,HM.out.1];exact HZL.out.1
  have hM:=h1.of_pre hzd;rw [kw] at h2;have HI:=hid (And.intro hM (And.intro h2 (And.intro h3 (And.intro h4 (And.intro h5 (And.intro hD h6))))));have HPW:=hid (HP1.out.below h5);clear h1 h2 h3 h4 h5 h6 hD hM hzd;have hC:=ai HPW.out.blk;have v21:=hC.c21;have vl:=hC.lt;have v15:=hC.c15;have v16:=hC.c16;have v17:=hC.c17;have v18:=hC.c18;have v19:=hC.c19;have v20:=hC.c20;have z15:=hC.fz 15;have z16:=hC.fz 16;have z17:=hC.fz 17;have z18:=hC.fz 18;have z19:=hC.fz 19;have z20:=hC.fz 20;have z21:=hC.fz 21;rw [HM.out.2] at v21;have hsvW:=HPW.out.sv;rw [HM.out.2] at hsvW;have hzW:k<((P.saves.map (·.head)).zip L.gs).length:=by rw [HZL.out.2,HM.out.1];omega
  have hsk:(P.saves.getD k jR)=P.saves[k]'HK.out:=by rw [List.getD_eq_getElem?_getD,List.getElem?_eq_getElem HK.out,Option.getD_some]
  have hzk:(((P.saves.map (·.head)).zip L.gs)[k]'hzW).1=(P.saves.getD k jR).head:=by rw [hsk,List.getElem_zip,List.getElem_map]
  obtain ⟨H,hH⟩:∃ H,H=(P.saves.getD k jR).head:=⟨_,rfl⟩;rw [← hH] at hzk;have e0:W.cell? ⟨b,k * 7,none⟩=some (.int .i64 H.mode):=by rw [← hzk];exact hsvW.row7 hzW 0 _ rfl
  have e1:W.cell? ⟨b,k * 7+1,none⟩=some (.int .i64 H.pages):=by rw [← hzk];exact hsvW.row7 hzW 1 _ rfl
  have e2:W.cell? ⟨b,k * 7+2,none⟩=some (.int .i64 H.trunk):=by rw [← hzk];exact hsvW.row7 hzW 2 _ rfl
  have e3:W.cell? ⟨b,k * 7+3,none⟩=some (.int .i64 H.spare):=by rw [← hzk];exact hsvW.row7 hzW 3 _ rfl
  have e4:W.cell? ⟨b,k * 7+4,none⟩=some (.int .i64 H.root):=by rw [← hzk];exact hsvW.row7 hzW 4 _ rfl
  have e5:W.cell? ⟨b,k * 7+5,none⟩=some (.int .u64 H.change):=by rw [← hzk];exact hsvW.row7 hzW 5 _ rfl
  have e6:∃ u,W.cell? ⟨b,k * 7+6,none⟩=some u:=⟨_,hsvW.row7 hzW 6 _ rfl⟩;have bl:b<W.heap.size:=hsvW.lt (.inl rfl);have hbz:W.frozen? ⟨b,k * 7+6,none⟩=false:=hsvW.row.frozen7 _;have hgb:b≠L.gp:=fun e=>HPW.out.apart.ps (.inl (by rw [HM.out.2,← e];rfl))
  have hmm:=@run_makeMap Tryz.prog;have HHH:=hid (And.intro hH (And.intro e6 (And.intro hbz (And.intro bl hgb))));clear hC hsvW hzk hH hsk hzW e6 hbz hgb;go_upto_region 12 with fail
  obtain ⟨hH,⟨u6,e6⟩,hbz,-,hgb⟩:=HHH.out;obtain ⟨w4,hw4⟩:∃ w4,w4=nk W L.gp H (.slice (some ⟨b,0,none⟩) (k+1) c):=⟨_,rfl⟩;change Code.wp _ _ _ _ (nk W L.gp H (.slice (some ⟨b,0,none⟩) (k+1) c));rw [← hw4];have HBK:=hid (show ∀ w6 w7,w6=w4.alloc (.map #[] 0)→w7=w6.setCell ⟨b,k * 7+6,none⟩ (.map (some w4.heap.size))→PTo W L (P.backTo k) w7 from fun w6 w7 h6 h7=>HPW.out.backSv HM.out.2 HM.out.1 hk6 HCB.out.wp (by rw [hw4,hH]) h6 h7);have hc4:Ch (fun j=>j=L.gp) W w4:=by rw [hw4];exact (((((((Ch.refl (fun j=>j=L.gp) W).setCell (p:=⟨L.gp,15,none⟩) rfl _).setCell (p:=⟨L.gp,16,none⟩) rfl _).setCell (p:=⟨L.gp,17,none⟩) rfl _).setCell (p:=⟨L.gp,18,none⟩) rfl _).setCell (p:=⟨L.gp,19,none⟩) rfl _).setCell (p:=⟨L.gp,20,none⟩) rfl _).setCell (p:=⟨L.gp,21,none⟩) rfl _
  have y21:w4.cell? ⟨L.gp,21,none⟩=some (.slice (some ⟨b,0,none⟩) (k+1) c):=by
   have h1:w4.heap[L.gp]?=some (co { L with vs:=.slice (some ⟨b,0,none⟩) (k+1) c,gs:=[] } (P.backTo k)):=by rw [hw4,hH];exact ae (dH HPW.out.blk (P.saves.getD k jR).head) 21 (.slice (some ⟨b,0,none⟩) (k+1) c)
   exact aa h1 21
  have yl:L.gp<w4.heap.size:=Nat.lt_of_lt_of_le vl hc4.size;have y6:=hc4.cell e6 hgb;have ybl:b<w4.heap.size:=Nat.lt_of_lt_of_le bl hc4.size;have yz:w4.frozen? ⟨b,k * 7+6,none⟩=false:=by rw [World.frozen?_of_block (a:=⟨b,k * 7+6,none⟩) (hc4.block b bl hgb)];exact hbz
  have y6':(w4.alloc (.map #[] 0)).cell? ⟨b,k * 7+6,none⟩=some u6:=(((Below.refl w4.heap.size w4).alloc (Nat.le_refl _) (.map #[] 0)).cell (p:=⟨b,k * 7+6,none⟩) ybl).trans y6;have ybl':b<(w4.alloc (.map #[] 0)).heap.size:=by simp;omega
  have yz':(w4.alloc (.map #[] 0)).frozen? ⟨b,k * 7+6,none⟩=false:=(((Below.refl w4.heap.size w4).alloc (Nat.le_refl _) (.map #[] 0)).frozen (p:=⟨b,k * 7+6,none⟩) ybl).trans yz;have hc5:((k:Int)+1)≤(c:Int):=by omega
  clear hw4 hc4 v21 v15 v16 v17 v18 v19 v20 z15 z16 z17 z18 z19 z20 z21 e0 e1 e2 e3 e4 e5 e6 hbz hgb hH bl vl;go_upto_region 13 with fail
  have h7:=HBK.out _ _ rfl rfl;rw [World.setCell_alloc_past _ _ _ _ ybl] at h7;generalize (w4.setCell ⟨b,k * 7+6,none⟩ (.map (some w4.heap.size))).alloc (.map #[] 0)=w7 at *;clear y21 yl y6 ybl yz y6' ybl' yz' hmm;obtain ⟨L3,g3,p3,f3,c3⟩:=h7;obtain ⟨hM,hKl,him,hgi,hB5,hD,hW3⟩:=HI.out;have hLl:∀ j,L.F j→j<w1.heap.size:=fun j hj=>HP1.out.lt hj
  have hDl:D<W.heap.size:=aK hD;have him7:=him.ch c3 fun e=>by have:=hLl _ e;omega
  have hgi7:=c3.keep hgi fun e=>by have:=hLl _ e;omega
  have hD7:=c3.keep hD fun e=>by have:=hLl _ e;have:=HWB.out.1;omega
  have hKn:K.length≤1000000:=by have:=HZL.out.1;omega
  have HSK:=hid (kL w1.heap.size w7 him7 hKn);have d0:w7.cell? ⟨w1.heap.size+1,0,none⟩=some (.map (some w1.heap.size)):=aa hgi7 0;have dl:=aK hgi7;have HP3:=hid (And.intro p3 (And.intro g3 (And.intro f3 c3)));have HM7:=hid (And.intro him7 (And.intro hgi7 hD7));have HLL:=hid hLl;have HMM:=hid (And.intro hM (And.intro hB5 (And.intro hDl hW3)));clear p3 g3 f3 c3 hM hKl him hgi hB5 hD hW3 him7 hgi7 hD7 hKn hLl hDl;go_wp2_with fail;refine (om (some w1.heap.size) w7).mono ?_;rintro e w8 ⟨rfl,rfl⟩;go_wp2_with fail;refine HSK.out.mono ?_;rintro e w8 ⟨v,rfl,ho,hb8⟩;obtain ⟨ks,hks⟩:∃ ks,ii (K.map (·.1))=ks:=⟨_,rfl⟩;rw [hks] at ho;obtain ⟨A8,c8,rfl,-⟩:=cq ho;have hc8:Ch (fun _=>False) w7 w8:=Ch.of_below hb8;have HP8:=hid (show PgIs w8 L3 (P.backTo k) from HP3.out.1.below hb8);have HM8:=hid (show fI w8 w1.heap.size K∧w8.heap[w1.heap.size+1]?=some (qZ w1.heap.size)∧w8.heap[D]?=some (.deferred (some [])) from ⟨HM7.out.1.ch hc8 id,hc8.keep HM7.out.2.1 id,hc8.keep HM7.out.2.2 id⟩);have HO8:=hid (And.intro ho (And.intro hb8 hks));have hkl:ks.length≤1000000:=by rw [← hks];unfold ii;rw [List.length_mergeSort,List.length_map];have:=HI.out.2.1;have:=HZL.out.1;omega
  have HNF:=hid (show ∀ j,L3.F j→j<w1.heap.size∨W.heap.size≤j from fun j hj=>(HP3.out.2.2.1 j hj).imp (HLL.out j) id);clear ho hb8 hc8 d0 dl hks;go_wp2_with fail;go_loopw [80] (fun iv wr=>∃ j:Nat,j≤ks.length∧iv=.int .i64 j∧PTo w8 L3 ((P.backTo k).restores K (ks.take j)) wr) (fun iv _=>ks.length - (intOf iv).toNat)
  case atStart=>exact ⟨0,Nat.zero_le _,rfl,PTo.refl HP8.out⟩
  case round=>
   obtain ⟨j,hj,rfl,hto⟩:=hrel;obtain ⟨L4,g4,p4,f4,c4⟩:=hto;have hnf:∀ i,w1.heap.size≤i→i<W.heap.size→¬ L3.F i:=fun i h1 h2 e=>by rcases HNF.out i e with e | e <;> omega
   have hM8:=HM8.out;have hDW:=HMM.out.2.2.1;have hW3:=HMM.out.2.2.2;have hD8:=c4.keep hM8.2.2 (hnf D (by have:=HWB.out.1;omega) hDW);have HG4:=hid (And.intro g4 (And.intro p4 (And.intro f4 (And.intro c4 hD8))));by_cases hlt:j<ks.length
   ·have ho4:=HO8.out.1.ch c4 fun i hi e=>by have:=(HO8.out.1.lt i hi).1;have:=HP3.out.1.lt e;omega
    obtain ⟨bk,ck,hvk,hbk,hck,-⟩:=eN ho4 (fun _=>rfl) hlt;injection hvk with e1 e2 e3
    subst e1 e3;have hcn:=hck _ rfl;have him4:=hM8.1.ch c4 (hnf _ (Nat.le_refl _) (by omega));have hgi4:=c4.keep hM8.2.1 (hnf _ (by omega) (by omega));have hcr:=HCB.out.rs K HMM.out.1 j ks[j] (by rw [HO8.out.2.2];exact List.getElem?_eq_getElem hlt);have hup:=kR (P.backTo k) K ks hlt;rw [HO8.out.2.2] at hcr;obtain ⟨hn0,hcr⟩:=hcr;have hj0:(0:Int)≤(j:Int):=by omega
    have hj1:(j:Int)<(ks.length:Int):=by omega
    have HJ:=hid (And.intro hj hlt);generalize ks[j]=n at *;obtain ⟨q,rfl⟩:∃ q:Nat,n=q:=⟨n.toNat,by omega⟩;rw [Int.toNat_natCast] at hcr hup;have hlook:=him4.look sD (a:=(q:Int)) (cR (by have:=hcr.lt;omega));rw [show mV sw (.string ⟨#[]⟩) (aQ K (q:Int))=.string (ak ((aQ K (q:Int)).getD [])) by cases aQ K (q:Int) <;> rfl] at hlook;have HRS:=hid (kc q ((aQ K (q:Int)).getD []) wr p4 hcr);rw [g4,HP3.out.2.1] at HRS;have HUP:=hid hup;generalize (aQ K (q:Int)).getD []=im at *;have d0:wr.cell? ⟨w1.heap.size+1,0,none⟩=some (.map (some w1.heap.size)):=aa hgi4 0;have dl:=aK hgi4;unfold rJ at hlook;unfold au at HRS;clear g4 p4 f4 c4 hnf hM8 hDW hW3 hD8 ho4 hck e2 him4 hgi4 hcr hn0 hup hj;go_wp2_with fail;refine HRS.out.mono ?_;rintro e w9 ⟨rfl,hr⟩;have HR9:=hid (show PTo w8 L3 ((P.backTo k).restores K (ks.take (j+1))) w9 from by
     rw [HUP.out];exact PTo.and HG4.out.1 HG4.out.2.2.1 HG4.out.2.2.2.1 hr)
    clear hr;go_wp2_with fail;go_roundw
    case rel=>exact ⟨j+1,by have:=HJ.out;omega,by go_num,HR9.out⟩
    case measure=>simp [intOf];omega
   ·obtain rfl:j=ks.length:=by omega
    have hbk:(P.backTo k).restores K (ks.take ks.length)=P.back k K:=by rw [List.take_length,← HO8.out.2.2];rfl
    rw [hbk] at p4;have HP4:=hid p4;clear g4 p4 f4 c4 hnf hM8 hDW hW3 hlt hj hbk;go_wp2_with fail;have hD9:=HG4.out.2.2.2.2;refine ⟨by simp,.inl ⟨_,_,rfl,run_takeDeferred hD9,?_⟩⟩;refine ⟨_,results_tmp rfl _ _ _,rfl,K,HMM.out.1,?_⟩
    have hnD:¬ L3.F D:=fun e=>by
     have:=HWB.out.1;have:=HMM.out.2.2.1;rcases HNF.out D e with e | e <;> omega
    have h78:Ch (fun _=>False) w7 w8:=Ch.of_below HO8.out.2.1;have hDw8:D<w8.heap.size:=aK HM8.out.2.2;have hs1:=HB1.out.size;have hsW:=HMM.out.2.1.size;have hs7:=HP3.out.2.2.2.size;have hs8:=h78.size;have hc1:Ch L.F w w7:=((Ch.of_below HB1.out).trans (Ch.of_below HMM.out.2.1)).trans HP3.out.2.2.2;have hF3:∀ i,L3.F i→L.F i∨w.heap.size≤i:=fun i hi=>(HP3.out.2.2.1 i hi).imp id fun e=>by omega
    have hc:Ch L.F w wr:=(hc1.trans (Ch.of_below HO8.out.2.1)).then HG4.out.2.2.2.1 hF3;refine PTo.putD (HG4.out.1.trans HP3.out.2.1) HP4.out (fun i hi=>?_) hc (fun e=>(HG4.out.2.2.1 D e).elim hnD fun e=>by omega) (by have:=HWB.out.1;omega);rcases HG4.out.2.2.1 i hi with e | e
    ·exact hF3 i e
    ·right;omega
end Go.Proofs.YtdmhbgpejppbkaaGreat
namespace Go.Proofs.YtdmhbgpejppbkaaGreat
open Go.Lib (hid)
open Go.RowKit Go.Maps
def Pgr.lays (P:Pgr) (l:List Pg):Pgr:=l.foldl (fun Q x=>{ Q with d:=Q.d.lay x.n.toNat (bs x.s) }) P
theorem rH (P:Pgr) (l:List Pg) {k:Nat} (h:k<l.length):P.lays (l.take (k+1))={ P.lays (l.take k) with d:=(P.lays (l.take k)).d.lay (l[k]).n.toNat (bs (l[k]).s) }:=by unfold Pgr.lays;rw [List.take_succ_eq_append_getElem h,List.foldl_append];rfl
structure CanLay (d:Dk) (n:Nat) (s:By):Prop where
 fine:d.Fine
 few:d.file aI=none→d.files.length<8
 room:(d.total:Int)+n+1≤d.room
 lt:n<4096
 len:s.length=232
def Pgr.main0 (P:Pgr) (l:List Pg):Pgr:={ P.sealed.lays l with d:=((P.sealed.lays l).d.setF aI Fi.settle).del bg }
structure CanMain (P:Pgr) (l:List Pg):Prop where
 base:P.base=0
 j0:P.notes=none→P.d.file bg=none
 ch:P.head.change+1<18446744073709551616
 cs:∀ j,P.note.notes=some j→CanSeal P.d j
 lays:∀ k x,l[k]?=some x→0≤x.n∧CanLay (P.sealed.lays (l.take k)).d x.n.toNat (bs x.s)
 fine:(P.sealed.lays l).d.Fine
 file:∃ f,(P.sealed.lays l).d.file aI=some f
 len:l.length≤1000
theorem mu (P:Pgr):∀ l:List Pg,(P.lays l).notes=P.notes∧(P.lays l).gd=P.gd:=fun l=>by
 unfold Pgr.lays
 induction l generalizing P with
 | nil=>exact ⟨rfl,rfl⟩
 | cons x l ih=>exact ih { P with d:=P.d.lay x.n.toNat (bs x.s) }
theorem jW (P:Pgr):∃ j,P.sealed.notes=some j:=by obtain ⟨j,hj⟩:=dC P;refine ⟨j.sealJ,?_⟩;show P.note.seal.notes=_;unfold Pgr.seal;rw [hj]
theorem mi (l:List Pg) (v:Value) (w:World) {L:PgL} {P:Pgr} (h:PgIs w L P) (hc:CanMain P l) (hv:Sl Pg.cells 2 w v l) (hx:∀ k,v.ownBlock=some k→¬ L.F k∧k<w.heap.size):
  Calls Tryz.prog 113 #[au L.gp,v] w fun e w'=>e=.returned (.int .i64 0)∧PTo w L (P.main0 l) w':=by
 have HH:=hid h;have HN:=hid (dP _ HH.out hc.j0 hc.ch);have HC:=hid hc;have HV:=hid hv;have HX:=hid hx;obtain ⟨A,c,rfl⟩:=Sl.len' hv;clear h hc hv hx;unfold au at *;go_enter Tryz.func113,Tryz.ntmps113;go_wp2_with fail;refine HN.out.mono ?_;rintro e w1 ⟨rfl,hto⟩;obtain ⟨L1,g1,p1,f1,c1⟩:=hto;obtain ⟨j,hj⟩:=dC P;rcases p1.jn with ⟨-,hno⟩ | ⟨g,x,hN,hnn,hxx⟩
 ·rw [hj] at hno;cases hno
 obtain rfl:x=j:=by rw [hj] at hnn;injection hnn with e;exact e.symm
 have hA1:=p1.apart;have jF:∀ k,(k=g.1∨k=g.2)→pe L1.N k:=fun k e=>by rw [hN];exact e
 have hC1:=ai p1.blk;have k24:=hC1.c24;have k8:=hC1.c8;have kl:=hC1.lt;rw [hN] at k24;rw [show P.note.base=0 by unfold Pgr.note;have:=HC.out.base;split <;> simp [this]] at k8;unfold ep au at k24;have HSL:=hid (jv x w1 p1.dk hxx (fun e=>hA1.dj _ e (jF _ (.inl rfl))) (fun e=>hA1.dj _ e (jF _ (.inr rfl))) (by rw [kj];exact HC.out.cs x hj));unfold au at HSL;have HP1:=hid p1;have HG1:=hid (And.intro g1 (And.intro f1 c1));have HN1:=hid hN;have HE1:=hid (show P.note.seal={ P.note with d:=x.sealD P.note.d,notes:=some x.sealJ } by unfold Pgr.seal;rw [hj]);rw [g1] at k24 k8 kl;have HV1:=hid (fh HV.out c1 (fun k hk=>(HX.out k hk).1));have HX1:=hid (fun k (hk:(Value.slice A l.length c).ownBlock=some k)=>(show ¬ L1.F k∧k<w1.heap.size from ⟨fun hf=>(f1 k hf).elim (HX.out k hk).1 (fun e=>by have:=(HX.out k hk).2;omega),Nat.lt_of_lt_of_le (HX.out k hk).2 c1.size⟩));clear g1 f1 c1 p1 hj hN hnn hxx hA1 jF hC1;go_wp2_with fail;refine HSL.out.mono ?_;rintro e w2 ⟨rfl,hto⟩;have hto:=HP1.out.setDJ HN1.out hto;rw [← HE1.out] at hto;obtain ⟨L2,g2,p2,f2,c2⟩:=hto;have hg2:L2.gp=L.gp:=g2.trans HG1.out.1;have hq:PgIs (w2.setCell ⟨L.gp,25,none⟩ (.bool true)) L2 P.sealed∧Ch (fun k=>k=L.gp) w2 (w2.setCell ⟨L.gp,25,none⟩ (.bool true)):=by have hc:=(Ch.refl (fun j=>j=L.gp) w2).setCell (p:=⟨L.gp,25,none⟩) rfl (.bool true);rw [← hg2];rw [← hg2] at hc;exact ⟨p2.setBlk hc (ae p2.blk 25 (.bool true)) rfl rfl rfl rfl rfl ⟨p2.ok.s1,p2.ok.s2,p2.ok.base,p2.ok.hp,p2.ok.wp,p2.ok.nos⟩,hc⟩
 have hC2:=ai p2.blk;have k25:=hC2.c25;have z25:=hC2.fz 25;have kl2:=hC2.lt;rw [hg2] at k25 z25 kl2;have HQ:=hid hq;have hgl:∀ k,(Value.slice A l.length c).ownBlock=some k→k≠L.gp:=fun k hk e=>(HX1.out k hk).1 (.inl (e.trans HG1.out.1.symm))
 have HV3:=hid (fh (fh HV1.out c2 (fun k hk=>(HX1.out k hk).1)) hq.2 hgl);have HX3:=hid (fun k (hk:(Value.slice A l.length c).ownBlock=some k)=>(show ¬ L2.F k∧k<(w2.setCell ⟨L.gp,25,none⟩ (.bool true)).heap.size from ⟨fun hf=>(f2 k hf).elim (HX1.out k hk).1 (fun e=>by have:=(HX1.out k hk).2;omega),Nat.lt_of_lt_of_le (HX1.out k hk).2 (c2.trans (hq.2.mono fun k _ e=>.inl (e.trans HG1.out.1.symm))).size⟩));have HT3:=hid (show (∀ k,L2.F k→L.F k∨w.heap.size≤k)∧Ch L.F w (w2.setCell ⟨L.gp,25,none⟩ (.bool true)) from
  ⟨fun k hk=>(f2 k hk).elim (HG1.out.2.1 k) (fun e=>.inr (Nat.le_trans HG1.out.2.2.size e)),(HG1.out.2.2.then c2 HG1.out.2.1).trans (hq.2.mono fun k _ e=>.inl e)⟩)
 have HG2:=hid hg2;clear g2 f2 c2 p2 hC2 hq hg2 hgl k24 k8 kl hto;go_upto_region 15 with fail
 generalize w2.setCell ⟨L.gp,25,none⟩ (.bool true)=w3 at *;clear k25 z25 kl2;go_wp2_with fail;go_loopw [57] (fun iv wr=>∃ k:Nat,k≤l.length∧iv=.int .i64 k∧PTo w3 L2 (P.sealed.lays (l.take k)) wr) (fun iv _=>l.length - (intOf iv).toNat)
 case atStart=>exact ⟨0,Nat.zero_le _,rfl,PTo.refl HQ.out.1⟩
 case round=>
  obtain ⟨k,hk,rfl,hto⟩:=hrel;have HTO:=hid hto;obtain ⟨L4,g4,p4,f4,c4⟩:=hto;have HS4:=fh HV3.out c4 (fun k hk=>(HX3.out k hk).1);have HP4:=hid p4;have HG4:=hid (And.intro g4 (And.intro f4 c4));clear g4 p4 f4 c4;by_cases hlt:k<l.length
  ·obtain ⟨b,off,c',he,hbl,hcells⟩:=HS4.at1 hlt;injection he with he1 he2 he3
   subst he1 he3;have hcs:=HC.out.lays k l[k] (List.getElem?_eq_getElem hlt);have hup:=rH P.sealed l hlt;have hk0:(0:Int)≤(k:Int):=by omega
   have hk1:(k:Int)<(l.length:Int):=by omega
   have HK:=hid (And.intro hk hlt);generalize l[k]=x at *;obtain ⟨xn,xs⟩:=x;obtain ⟨hx0,hx1⟩:=hcs;simp only at hx0 hx1 hup;obtain ⟨m,rfl⟩:∃ m:Nat,xn=m:=⟨xn.toNat,by omega⟩;obtain ⟨t,rfl⟩:∃ t,xs=ak t:=⟨bs xs,(eO xs).symm⟩;rw [aP,Int.toNat_natCast] at hx1 hup;have e0:wr.cell? ⟨b,off+k * 2,none⟩=some (.int .i64 m):=hcells 0 _ rfl;have e1:wr.cell? ⟨b,off+k * 2+1,none⟩=some (.string (ak t)):=hcells 1 _ rfl;have HUP:=hid hup;have hA:Below wr.heap.size wr (wr.alloc (rz m t)):=(Below.refl _ wr).alloc (Nat.le_refl _) _;have HA:=hid hA;have HLY:=hid (kU m t _ (HP4.out.below hA) hx1.fine hx1.few hx1.room hx1.lt hx1.len);rw [HG4.out.1,HG2.out] at HLY;unfold au rz at HLY;have hl2:(k:Int)<1000:=by have:=HC.out.len;omega
   clear hcells hx1 hup HS4 hx0 hk hA;go_wp2_with fail;refine HLY.out.mono ?_;rintro e w5 ⟨rfl,hr⟩;have HR:=hid (show PTo w3 L2 (P.sealed.lays (l.take (k+1))) w5 from by
    rw [HUP.out];exact PTo.and HG4.out.1 HG4.out.2.1 HG4.out.2.2 (PTo.pre hr HA.out))
   clear hr;go_wp2_with fail;go_roundw
   case rel=>exact ⟨k+1,by have:=HK.out;omega,by go_num,HR.out⟩
   case measure=>simp [intOf];omega
  ·obtain rfl:k=l.length:=by omega
   rw [List.take_length] at HP4;obtain ⟨fm,hfm⟩:=HC.out.file;have hsy:=HC.out.fine.sy (n:=aI) (by decide) hfm;have HSY:=hid (hU aI (by decide) wr HP4.out.dk);rw [hsy.1,hsy.2] at HSY;have hC4:=ai HP4.out.blk;have c0:=hC4.c0;have hl4:=hC4.lt;rw [HG4.out.1,HG2.out] at c0 hl4;unfold dQ at HSY;rw [uJ] at HSY;unfold au at c0;clear hsy hfm hC4 hlt hk HS4;go_wp2_with fail;refine HSY.out.mono ?_;rintro e w5 ⟨rfl,hr⟩;have hto:=PTo.dk HP4.out hr;obtain ⟨L5,g5,p5,f5,c5⟩:=hto;obtain ⟨j5,hj5⟩:=jW P;have hn5:(P.sealed.lays l).notes=some j5:=(mu P.sealed l).1.trans hj5;rcases p5.jn with ⟨-,hno⟩ | ⟨y,x5,hN5,hnn5,hx5⟩
   ·rw [show ({ P.sealed.lays l with d:=(P.sealed.lays l).d.setF aI Fi.settle }:Pgr).notes=(P.sealed.lays l).notes from rfl,hn5] at hno;cases hno
   have hC5:=ai p5.blk;have c24:=hC5.c24;have hl5:=hC5.lt;rw [hN5,g5,HG4.out.1,HG2.out] at c24;rw [g5,HG4.out.1,HG2.out] at hl5;unfold ep au at c24;have HEN:=hid (qh x5 w5 p5.dk hx5 (HC.out.fine.setF));unfold au at HEN;have HP5:=hid p5;have HG5:=hid (And.intro g5 (And.intro f5 c5));clear g5 p5 f5 c5 hC5 hj5 hn5 hnn5 hx5 hN5 hr;go_wp2_with fail;refine HEN.out.mono ?_;rintro e w6 ⟨rfl,hr⟩;have HF:=hid (show PTo w L (P.main0 l) w6 from by
    refine PTo.and HG2.out HT3.out.1 HT3.out.2 ?_;refine PTo.and HG4.out.1 HG4.out.2.1 HG4.out.2.2 ?_;exact PTo.and HG5.out.1 HG5.out.2.1 HG5.out.2.2 (PTo.dk HP5.out hr))
   clear hr;go_wp2_with fail;go_ret;exact ⟨rfl,HF.out⟩
end Go.Proofs.YtdmhbgpejppbkaaGreat
