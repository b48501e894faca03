/- pager: Back. pager: Begin, Save, Back as they are seen from without. Commit as it is seen from without. -/
import Derived.Test.YtdmhbgpejppbkaaGreatXGbm
import Derived.Test.YtdmhbgpejppbkaaGreatXGbg
import Derived.Test.YtdmhbgpejppbkaaGreatXGbn
import Derived.RangeFuncNested
set_option maxRecDepth 100000
set_option maxHeartbeats 4000000
namespace Go.Proofs.YtdmhbgpejppbkaaGreat
open Go.Lib (hid)
open Go.RowKit Go.Maps Go.Shelf
attribute [local go_sem] Oper.semAt_some
def po (g:Nat):Obj:=.cells #[.map (some g)] 102 (0,0)
def qZ (b off n c:Nat):Obj:=.cells #[.slice (some ⟨b,off,none⟩) n c] 75 (0,0)
def BkI (P:Pgr) (w1:World) (k n:Nat) (pre:List (Fin n)) (W:World):Prop:=(∃ K,Mrg (pre.map fun i=>P.saves.getD (k+i.1) gF) K∧K.length≤pre.length * 10000∧fu W w1.heap.size K)∧W.heap[w1.heap.size+1]?=some (po w1.heap.size)∧Below w1.heap.size w1 W∧w1.heap.size+3≤W.heap.size
theorem BkI.own {P:Pgr} {w1:World} {k n B:Nat} (hB:w1.heap.size+2≤B):OwnFrom B (BkI P w1 k n):=fun pre W W' row h hg hr=>by
 obtain ⟨⟨K,h1,h2,h3⟩,h4,h5,h6⟩:=h;have hc:Ch (fun j=>B≤j) W W':=Ch.of_grown hg fun j hj=>(hr j hj).1
 exact ⟨⟨K,h1,h2,h3.ch hc (by omega)⟩,hc.keep h4 (by omega),h5.trans (hc.below (B:=w1.heap.size) (by have:=h5.size;omega) fun j hj=>by omega),Nat.le_trans h6 hc.size⟩
theorem Own.frozen7 {α:Type} {f:α→List Value} {size:Nat} {e:TypeId} {base:Nat} {w:World} {b n c:Nat} {xs:List α} (h:Own f size e base w (.slice (some ⟨b,0,none⟩) n c) xs) (j:Nat):w.frozen? ⟨b,j,none⟩=false:=by
 rcases h.2 with ⟨hv,_⟩ | ⟨g,cap,cur,hv,hb,hg,hn,hm,hc,ht⟩
 ·cases hv
 ·injection hv with e1 _ _
  injection e1 with e1
  injection e1 with e1 _ _
  subst e1;exact ah hg j
theorem mZ (k:Nat) (w:World) {L:PgL} {P:Pgr} (h:PgIs w L P) (hu:P.Up) (hb:P.busy=true) (hcb:CanBack P k):
  Calls Tryz.prog 41 #[ai L.gp,.int .i64 ((k:Int)+1)] w fun e w'=>e=.returned (.int .i64 0)∧∃ K,Mrg (P.saves.drop k).reverse K∧PTo w L (P.back k K) w':=by
 have HK:=hid hcb.lt;have HCB:=hid hcb;have hmm:=@run_makeMap Tryz.prog;clear hcb;have hA:Below w.heap.size w (w.alloc (.cells #[.bool true] 4)):=(Below.refl _ w).alloc (Nat.le_refl _) _;have hX:(w.alloc (.cells #[.bool true] 4)).heap[w.heap.size]?=some (.cells #[.bool true] 4 (0,0)):=af rfl;have HB:=hid (ak true w.heap.size _ (h.below hA) hu (aa hX 0) (ab hX));rw [hb,show bV (some true) true=0 from rfl] at HB;have HA:=hid hA;have HH:=hid h;have HU:=hid (And.intro hu hb);unfold ai at *;clear h hu hb hA hX;refine (callsIn_wide (n:=7)).1 (callsIn_of_wp_marks Tryz.func41 rfl trivial ?_ rfl);simp only [Tryz.ntmps41,List.size_toArray,List.length_cons,List.length_nil,Nat.reduceAdd,Nat.reduceSub,Array.replicate_succ,Array.replicate_zero,List.push_toArray,List.append_toArray,List.nil_append,List.cons_append];refine wpIn_wide.2 ?_;go_wp2_with fail;refine HB.out.mono ?_;rintro e w1 ⟨rfl,hb1⟩;have HB1:=hid (HA.out.trans (hb1.mono HA.out.size));have HP1:=hid (HH.out.below HB1.out);have hC:=ag HP1.out.blk;have hlt:=hC.lt;obtain ⟨m,hm⟩:∃ m,P.saves.length=m+1:=⟨P.saves.length - 1,by have:=HK.out;omega⟩;obtain ⟨b,c,hv,hcc,hbl⟩:=HP1.out.sv.base hm;have c21:=hC.c21;rw [hv] at c21;have hc1:((m:Int)+1)≤(c:Int):=by omega
 have hc2:(k:Int)≤(c:Int):=by have:=HK.out;omega
 have hkm:=HK.out;have hnos:=HP1.out.ok.nos;rw [hm] at hkm hnos;have hk0:(0:Int)≤(k:Int):=by omega
 have hk1:(1:Int)≤(k:Int)+1:=by omega
 have hk2:(k:Int)+1≤(m:Int)+1:=by omega
 have hk3:(k:Int)≤(m:Int)+1:=by omega
 have hk4:(k:Int)<(m:Int)+1:=by omega
 have hwk:IntKind.i64.wrap (k:Int)=(k:Int):=by rw [IntKind.wrap_i64];omega
 have hwk1:IntKind.i64.wrap ((k:Int)+1 - 1)=(k:Int):=by rw [IntKind.wrap_i64];omega
 have hk5:¬ m<k:=by omega
 have hk6:k≤m:=by omega
 have hkd:decide ((k:Int)+1<1)=false:=decide_eq_false (by omega);have HM:=hid (And.intro hm hv);clear hb1 hC hv hm;go_wp2_with fail;refine (tF _ _ ⟨_,_,_,rfl⟩).mono ?_;rintro e w2 ⟨rfl,rfl⟩;go_wp2_with fail;have hz0:((P.saves.map (·.head)).zip L.gs).length=P.saves.length:=by rw [List.length_zip,List.length_map,HP1.out.sv.len,Nat.min_self]
 obtain ⟨zs,hzs⟩:∃ zs,zs=((P.saves.map (·.head)).zip L.gs).drop k:=⟨_,rfl⟩;have hzl:zs.length=m+1 - k:=by rw [hzs,List.length_drop,hz0,HM.out.1]
 have HBB:=hid (show Below w1.heap.size w1 (((w1.alloc (.map #[] 0)).alloc (po w1.heap.size)).alloc (qZ b (k * 7) (m+1 - k) (c - k))) from (((Below.refl _ w1).alloc (Nat.le_refl _) _).alloc (by simp) _).alloc (by simp;omega) _);have hsB:(((w1.alloc (.map #[] 0)).alloc (po w1.heap.size)).alloc (qZ b (k * 7) (m+1 - k) (c - k))).heap.size=w1.heap.size+3:=by simp
 have hm0:fu (((w1.alloc (.map #[] 0)).alloc (po w1.heap.size)).alloc (qZ b (k * 7) (m+1 - k) (c - k))) w1.heap.size []:=((MpIs.made w1).ch (S:=fun _=>False) (Ch.alloc (Ch.refl _ _) _) id).ch (S:=fun _=>False) (Ch.alloc (Ch.refl _ _) _) id;have hi0:(((w1.alloc (.map #[] 0)).alloc (po w1.heap.size)).alloc (qZ b (k * 7) (m+1 - k) (c - k))).heap[w1.heap.size+1]?=some (po w1.heap.size):=ar (af (by simp)) _;have hx0:(((w1.alloc (.map #[] 0)).alloc (po w1.heap.size)).alloc (qZ b (k * 7) (m+1 - k) (c - k))).heap[w1.heap.size+2]?=some (qZ b (k * 7) (m+1 - k) (c - k)):=af (by simp);change Code.wp _ _ _ _ (((w1.alloc (.map #[] 0)).alloc (po w1.heap.size)).alloc (qZ b (k * 7) (m+1 - k) (c - k)));generalize ((w1.alloc (.map #[] 0)).alloc (po w1.heap.size)).alloc (qZ b (k * 7) (m+1 - k) (c - k))=wB at *;have hmk:m+1 - k≤16:=by omega
 have hsvs:=HP1.out.sv;rw [HM.out.2] at hsvs
 have HS:=hid (show SeqStopsK Fence.wide 5 Tryz.prog 143 #[.pointer (some ⟨w1.heap.size+2,0,none⟩)] (AJ zs) (BwK w1.heap.size (w1.heap.size+2)) (fun ys=>ys=mK zs.length zs.length (Nat.le_refl _)) (fun _=>True) zs.length wB from
  nX Fence.wide 5 trivial rfl (by omega) (w1.heap.size+2) w1.heap.size b (k * 7) (c - k) zs (by omega) wB hbl (by omega) (by rw [hzl];exact hx0) (fun i hi j u hu=>by
   have hi2:k+i<((P.saves.map (·.head)).zip L.gs).length:=by rw [hz0,HM.out.1];omega
   have e1:zs[i]=((P.saves.map (·.head)).zip L.gs)[k+i]:=by subst hzs;exact List.getElem_drop
   rw [e1] at hu;have h1:=hsvs.row7 hi2 j u hu;rw [show k * 7+i * 7+j=(k+i) * 7+j by omega];exact (HBB.out.cell (p:=⟨b,(k+i) * 7+j,none⟩) hbl).trans h1))
 have HZ:=hid (show ∀ x:Fin zs.length,∃ hx:k+x.1<P.saves.length,(P.saves.getD (k+x.1) gF)=P.saves[k+x.1]∧L.gs[k+x.1]?=some (zs[x.1]'x.2).2∧(zs[x.1]'x.2).1=P.saves[k+x.1].head from fun x=>by
  have hx:k+x.1<P.saves.length:=by have:=x.2;rw [HM.out.1];omega
  have hg:k+x.1<L.gs.length:=by rw [HP1.out.sv.len];exact hx
  have e1:zs[x.1]'x.2=((P.saves.map (·.head)).zip L.gs)[k+x.1]'(by rw [hz0];exact hx):=by subst hzs;exact List.getElem_drop
  refine ⟨hx,by rw [List.getD_eq_getElem?_getD,List.getElem?_eq_getElem hx,Option.getD_some],?_,?_⟩
  ·rw [e1,List.getElem_zip,List.getElem?_eq_getElem hg]
  ·rw [e1,List.getElem_zip,List.getElem_map])
 have HZL:=hid (And.intro hzl hz0);have HWB:=hid (And.intro hsB (And.intro hm0 (And.intro hi0 hx0)));clear hzs hzl hz0 hsB hm0 hi0 hx0 hsvs hmm;obtain ⟨act,hact⟩:∃ act:Fin zs.length→Nat→Act,act=(fun (x:Fin zs.length) (gs:Nat)=>({ tmps:=#[.pointer (some ⟨L.gp,0,none⟩),.int .i64 ((k:Int)+1),undef,undef,.int .i64 0,.int .i64 0,.pointer (some ⟨w1.heap.size+1,0,none⟩),undef,.pointer (some ⟨gs,0,none⟩),undef,undef,undef,.pointer (some ⟨L.gp,0,none⟩),.slice (some ⟨w.heap.size,0,none⟩) 1 1,.int .i64 0,.bool false,.int .i64 0,.bool false,undef,.bool false,.int .i64 ((k:Int)+1),.bool false,.bool false,.int .i64 ((k:Int)+1),.pointer (some ⟨L.gp,0,none⟩),.pointer (some ⟨L.gp,0,none⟩),.pointer (some ⟨L.gp,21,none⟩),.slice (some ⟨b,0,none⟩) (m+1) c,.int .i64 ((m:Int)+1),.bool false,.bool false,.map (some w1.heap.size),.pointer (some ⟨L.gp,0,none⟩),.pointer (some ⟨L.gp,0,none⟩),.pointer (some ⟨L.gp,21,none⟩),.slice (some ⟨b,0,none⟩) (m+1) c,.int .i64 ((k:Int)+1),.int .i64 (k:Int),.slice (some ⟨b,k * 7,none⟩) (m+1 - k) (c - k),.func (.func 143) #[] #[.pointer (some ⟨w1.heap.size+1+1,0,none⟩)],.int .i64 (x.1:Int),sV (zs[x.1]'x.2),undef,undef,undef,undef,undef,undef,undef,undef,undef,undef,undef,undef,undef,undef,undef,undef,undef,undef,undef,undef,undef,undef,undef,undef,undef,undef,undef,undef,undef,undef,undef,undef,undef,undef,undef,undef,undef,undef,undef,undef,undef,undef,undef,undef,undef,undef,undef,undef,undef,undef,undef,undef],defers:=[] }:Act)):=⟨_,rfl⟩;have HACT:=hid hact;clear hact;refine (wpIn_wide (n:=6)).1 ?_
 refine wpIn_rangeFunc_ownH rfl (by omega) (gf:=143) (lb:=#[.pointer (some ⟨w1.heap.size+2,0,none⟩)]) rfl trivial (enters_of Tryz.func143 (by kernel_rfl) rfl)
  HS.out BwK.trans (BwK.put (by have:=HWB.out.1;omega)) (Below.refl _ _) (fun _=>rfl)
  (BkI P w1 k zs.length) (fun _ _ _=>False) (BkI.own (by have:=HWB.out.1;omega)) (fun _ _ _ _ _ hs _ _=>hs) ⟨⟨[],Mrg.nil,Nat.zero_le _,HWB.out.2.1⟩,HWB.out.2.2.1,HBB.out,by rw [HWB.out.1];exact Nat.le_refl _⟩
  (fun x a' W=>∃ gs,a'=act x gs∧wB.heap.size≤gs∧W.heap[gs]?=some (pD (zs[x.1]'x.2))) ?ax ?assign ?body ?done ?stop
 case assign=>
  intro l pre x W K hI hK;unfold AJ sV;have hWs:wB.heap.size≤W.heap.size:=by have:=hI.2.2.2;have:=HWB.out.1;omega
  have HAL:=hid (show Below W.heap.size W (W.alloc (pD (zs[x.1]'x.2))) from (Below.refl _ W).alloc (Nat.le_refl _) _);have HNW:=hid (show (W.alloc (pD (zs[x.1]'x.2))).heap[W.heap.size]?=some (pD (zs[x.1]'x.2)) from af rfl);have HIW:=hid hI;clear hI;gi_wp2;obtain ⟨gs,hgs⟩:∃ gs,gs=W.heap.size:=⟨_,rfl⟩;rw [← hgs] at HNW;rw [← hgs];obtain ⟨⟨K',h1,h2,h3⟩,h4,h5,h6⟩:=HIW.out;have hbw:w1.heap.size≤W.heap.size:=h5.size;have hc:Ch (fun _=>False) W (W.alloc (pD (zs[x.1]'x.2))):=Ch.of_below HAL.out;refine hK _ _ (KeepsFrom.of_grownBy (row:=none) (World.grownBy_alloc W _ none) (fun j e=>by cases e)) ⟨HAL.out.mono hbw,fun c t e=>hc.keep e id⟩ ⟨⟨K',h1,h2,h3.ch hc id⟩,hc.keep h4 id,h5.trans (HAL.out.mono hbw),Nat.le_trans h6 hc.size⟩ ⟨gs,by rw [HACT.out];rfl,?_,HNW.out⟩;rw [hgs];exact hWs
 case ax=>
  intro x a' u W W' row h hg hr;obtain ⟨gs,e,h1,h2⟩:=h
  exact ⟨gs,e,h1,(Ch.of_grown (S:=fun j=>row=some j) hg fun j hj=>hj).keep h2 fun e2=>by
   obtain ⟨-,o,ho,hc⟩:=hr gs e2;rw [h2] at ho;injection ho with ho
   rw [← ho] at hc;cases hc⟩
 case body=>
  intro l pre x a' W hl hr hI hA hlen;obtain ⟨gs,rfl,hgs,hsb⟩:=hA;rw [HACT.out];unfold sV;dsimp only;obtain ⟨⟨K,h1,h2,h3⟩,h4,h5,h6⟩:=hI;obtain ⟨hx,hgd,hgx,-⟩:=HZ.out x
  have him:=(HP1.out.below h5).sv.im (L.gs[k+x.1]'(by rw [HP1.out.sv.len];exact hx),P.saves[k+x.1]) (by
   rw [← List.getElem_zip (h:=by rw [List.length_zip,HP1.out.sv.len,Nat.min_self];exact hx)];exact List.getElem_mem _)
  have hgx2:L.gs[k+x.1]'(by rw [HP1.out.sv.len];exact hx)=(zs[x.1]'x.2).2:=by rw [List.getElem?_eq_getElem (by rw [HP1.out.sv.len];exact hx)] at hgx;injection hgx
  simp only at him;rw [hgx2] at him;have hgo:(zs[x.1]'x.2).2<w1.heap.size:=by rw [← hgx2];exact HP1.out.sv.lt (.inr (List.getElem_mem _))
  have hlim:=HCB.out.im _ (List.getElem_mem hx);have hpl:pre.length≤16:=by have:=HZL.out.1;omega
  have HCP:=hid (nT w1.heap.size (zs[x.1]'x.2).2 W h3 him (by omega) (by omega));have d0:W.cell? ⟨w1.heap.size+1,0,none⟩=some (.map (some w1.heap.size)):=aa h4 0;have dl:=ab h4;have d6:W.cell? ⟨gs,6,none⟩=some (.map (some (zs[x.1]'x.2).2)):=aa hsb 6;have dl6:=ab hsb;have HI:=hid (And.intro h1 (And.intro h2 (And.intro h4 (And.intro h5 (And.intro hgd (And.intro hlim (And.intro dl h6)))))));clear h1 h2 h3 h4 h5 h6 hgx him hgx2 hgo hlim hpl hsb hgd hl hr hlen;gi_wp2_with (refine ⟨trivial,?_⟩;gi_at_call 96;refine (CallsIn.inRound l (callsIn_wide.2 HCP.out)).mono ?_;rintro e W2 ⟨rfl,K3,hp,him2,hgr⟩);obtain ⟨h1,h2,h4,h5,hgd,hlim,dl,h6⟩:=HI.out;have hc:Ch (fun j=>j=w1.heap.size) W W2:=Ch.of_grown hgr fun j hj=>by injection hj with hj;exact hj.symm
  have hb:Below w1.heap.size W W2:=(Below.refl w1.heap.size W).grown hgr h5.size fun j hj=>by injection hj with hj;omega
  refine ⟨KeepsFrom.of_grownBy hgr (fun j hj=>by injection hj with hj;have:=HWB.out.1;omega),⟨hb,fun c t e=>hc.keep e (by omega)⟩,⟨dS K K3,?_,?_,him2⟩,hc.keep h4 (by omega),h5.trans hb,Nat.le_trans h6 hc.size⟩
  ·rw [List.map_append,List.map_cons,List.map_nil];exact Mrg.snoc h1 (by rw [hgd];exact hp)
  ·have:=lj K K3;have:=hp.length_eq;rw [List.length_append];simp only [List.length_cons,List.length_nil];omega
 case stop=> rintro D c pre W _ _ h _;exact h.elim
 case done=>
  intro D ys W hDw hys hI hD;subst hys;obtain ⟨⟨K,h1,h2,h3⟩,h4,h5,h6⟩:=hI;have hzd:zs.length=(P.saves.drop k).length:=by rw [List.length_drop,HM.out.1];exact HZL.out.1
  have hM:=h1.of_pre hzd;rw [je] at h2;have HI:=hid (And.intro hM (And.intro h2 (And.intro h3 (And.intro h4 (And.intro h5 (And.intro hD h6))))));have HPW:=hid (HP1.out.below h5);clear h1 h2 h3 h4 h5 h6 hD hM hzd;have hC:=ag HPW.out.blk;have v21:=hC.c21;have vl:=hC.lt;have v15:=hC.c15;have v16:=hC.c16;have v17:=hC.c17;have v18:=hC.c18;have v19:=hC.c19;have v20:=hC.c20;have z15:=hC.fz 15;have z16:=hC.fz 16;have z17:=hC.fz 17;have z18:=hC.fz 18;have z19:=hC.fz 19;have z20:=hC.fz 20;have z21:=hC.fz 21;rw [HM.out.2] at v21;have hsvW:=HPW.out.sv;rw [HM.out.2] at hsvW;have hzW:k<((P.saves.map (·.head)).zip L.gs).length:=by rw [HZL.out.2,HM.out.1];omega
  have hsk:(P.saves.getD k gF)=P.saves[k]'HK.out:=by rw [List.getD_eq_getElem?_getD,List.getElem?_eq_getElem HK.out,Option.getD_some]
  have hzk:(((P.saves.map (·.head)).zip L.gs)[k]'hzW).1=(P.saves.getD k gF).head:=by rw [hsk,List.getElem_zip,List.getElem_map]
  obtain ⟨H,hH⟩:∃ H,H=(P.saves.getD k gF).head:=⟨_,rfl⟩;rw [← hH] at hzk;have e0:W.cell? ⟨b,k * 7,none⟩=some (.int .i64 H.mode):=by rw [← hzk];exact hsvW.row7 hzW 0 _ rfl
  have e1:W.cell? ⟨b,k * 7+1,none⟩=some (.int .i64 H.pages):=by rw [← hzk];exact hsvW.row7 hzW 1 _ rfl
  have e2:W.cell? ⟨b,k * 7+2,none⟩=some (.int .i64 H.trunk):=by rw [← hzk];exact hsvW.row7 hzW 2 _ rfl
  have e3:W.cell? ⟨b,k * 7+3,none⟩=some (.int .i64 H.spare):=by rw [← hzk];exact hsvW.row7 hzW 3 _ rfl
  have e4:W.cell? ⟨b,k * 7+4,none⟩=some (.int .i64 H.root):=by rw [← hzk];exact hsvW.row7 hzW 4 _ rfl
  have e5:W.cell? ⟨b,k * 7+5,none⟩=some (.int .u64 H.change):=by rw [← hzk];exact hsvW.row7 hzW 5 _ rfl
  have e6:∃ u,W.cell? ⟨b,k * 7+6,none⟩=some u:=⟨_,hsvW.row7 hzW 6 _ rfl⟩;have bl:b<W.heap.size:=hsvW.lt (.inl rfl);have hbz:W.frozen? ⟨b,k * 7+6,none⟩=false:=hsvW.row.frozen7 _;have hgb:b≠L.gp:=fun e=>HPW.out.apart.ps (.inl (by rw [HM.out.2,← e];rfl))
  have hmm:=@run_makeMap Tryz.prog;have HHH:=hid (And.intro hH (And.intro e6 (And.intro hbz (And.intro bl hgb))));clear hC hsvW hzk hH hsk hzW e6 hbz hgb;go_upto_region 12 with fail
  obtain ⟨hH,⟨u6,e6⟩,hbz,-,hgb⟩:=HHH.out;obtain ⟨w4,hw4⟩:∃ w4,w4=tH W L.gp H (.slice (some ⟨b,0,none⟩) (k+1) c):=⟨_,rfl⟩;change Code.wp _ _ _ _ (tH W L.gp H (.slice (some ⟨b,0,none⟩) (k+1) c));rw [← hw4];have HBK:=hid (show ∀ w6 w7,w6=w4.alloc (.map #[] 0)→w7=w6.setCell ⟨b,k * 7+6,none⟩ (.map (some w4.heap.size))→PTo W L (P.backTo k) w7 from fun w6 w7 h6 h7=>HPW.out.backSv HM.out.2 HM.out.1 hk6 HCB.out.wp (by rw [hw4,hH]) h6 h7);have hc4:Ch (fun j=>j=L.gp) W w4:=by rw [hw4];exact (((((((Ch.refl (fun j=>j=L.gp) W).setCell (p:=⟨L.gp,15,none⟩) rfl _).setCell (p:=⟨L.gp,16,none⟩) rfl _).setCell (p:=⟨L.gp,17,none⟩) rfl _).setCell (p:=⟨L.gp,18,none⟩) rfl _).setCell (p:=⟨L.gp,19,none⟩) rfl _).setCell (p:=⟨L.gp,20,none⟩) rfl _).setCell (p:=⟨L.gp,21,none⟩) rfl _
  have y21:w4.cell? ⟨L.gp,21,none⟩=some (.slice (some ⟨b,0,none⟩) (k+1) c):=by
   have h1:w4.heap[L.gp]?=some (bX { L with vs:=.slice (some ⟨b,0,none⟩) (k+1) c,gs:=[] } (P.backTo k)):=by rw [hw4,hH];exact ae (ft HPW.out.blk (P.saves.getD k gF).head) 21 (.slice (some ⟨b,0,none⟩) (k+1) c)
   exact aa h1 21
  have yl:L.gp<w4.heap.size:=Nat.lt_of_lt_of_le vl hc4.size;have y6:=hc4.cell e6 hgb;have ybl:b<w4.heap.size:=Nat.lt_of_lt_of_le bl hc4.size;have yz:w4.frozen? ⟨b,k * 7+6,none⟩=false:=by rw [World.frozen?_of_block (a:=⟨b,k * 7+6,none⟩) (hc4.block b bl hgb)];exact hbz
  have y6':(w4.alloc (.map #[] 0)).cell? ⟨b,k * 7+6,none⟩=some u6:=(((Below.refl w4.heap.size w4).alloc (Nat.le_refl _) (.map #[] 0)).cell (p:=⟨b,k * 7+6,none⟩) ybl).trans y6;have ybl':b<(w4.alloc (.map #[] 0)).heap.size:=by simp;omega
  have yz':(w4.alloc (.map #[] 0)).frozen? ⟨b,k * 7+6,none⟩=false:=(((Below.refl w4.heap.size w4).alloc (Nat.le_refl _) (.map #[] 0)).frozen (p:=⟨b,k * 7+6,none⟩) ybl).trans yz;have hc5:((k:Int)+1)≤(c:Int):=by omega
  clear hw4 hc4 v21 v15 v16 v17 v18 v19 v20 z15 z16 z17 z18 z19 z20 z21 e0 e1 e2 e3 e4 e5 e6 hbz hgb hH bl vl;go_upto_region 13 with fail
  have h7:=HBK.out _ _ rfl rfl;rw [World.setCell_alloc_past _ _ _ _ ybl] at h7;generalize (w4.setCell ⟨b,k * 7+6,none⟩ (.map (some w4.heap.size))).alloc (.map #[] 0)=w7 at *;clear y21 yl y6 ybl yz y6' ybl' yz' hmm;obtain ⟨L3,g3,p3,f3,c3⟩:=h7;obtain ⟨hM,hKl,him,hgi,hB5,hD,hW3⟩:=HI.out;have hLl:∀ j,L.F j→j<w1.heap.size:=fun j hj=>HP1.out.lt hj
  have hDl:D<W.heap.size:=aO hD;have him7:=him.ch c3 fun e=>by have:=hLl _ e;omega
  have hgi7:=c3.keep hgi fun e=>by have:=hLl _ e;omega
  have hD7:=c3.keep hD fun e=>by have:=hLl _ e;have:=HWB.out.1;omega
  have hKn:K.length≤1000000:=by have:=HZL.out.1;omega
  have HSK:=hid (jZ w1.heap.size w7 him7 hKn);have d0:w7.cell? ⟨w1.heap.size+1,0,none⟩=some (.map (some w1.heap.size)):=aa hgi7 0;have dl:=aO hgi7;have HP3:=hid (And.intro p3 (And.intro g3 (And.intro f3 c3)));have HM7:=hid (And.intro him7 (And.intro hgi7 hD7));have HLL:=hid hLl;have HMM:=hid (And.intro hM (And.intro hB5 (And.intro hDl hW3)));clear p3 g3 f3 c3 hM hKl him hgi hB5 hD hW3 him7 hgi7 hD7 hKn hLl hDl;go_wp2_with fail;refine (nn (some w1.heap.size) w7).mono ?_;rintro e w8 ⟨rfl,rfl⟩;go_wp2_with fail;refine HSK.out.mono ?_;rintro e w8 ⟨v,rfl,ho,hb8⟩;obtain ⟨ks,hks⟩:∃ ks,bF (K.map (·.1))=ks:=⟨_,rfl⟩;rw [hks] at ho;obtain ⟨A8,c8,rfl,-⟩:=aD ho;have hc8:Ch (fun _=>False) w7 w8:=Ch.of_below hb8;have HP8:=hid (show PgIs w8 L3 (P.backTo k) from HP3.out.1.below hb8);have HM8:=hid (show fu w8 w1.heap.size K∧w8.heap[w1.heap.size+1]?=some (po w1.heap.size)∧w8.heap[D]?=some (.deferred (some [])) from ⟨HM7.out.1.ch hc8 id,hc8.keep HM7.out.2.1 id,hc8.keep HM7.out.2.2 id⟩);have HO8:=hid (And.intro ho (And.intro hb8 hks));have hkl:ks.length≤1000000:=by rw [← hks];unfold bF;rw [List.length_mergeSort,List.length_map];have:=HI.out.2.1;have:=HZL.out.1;omega
  have HNF:=hid (show ∀ j,L3.F j→j<w1.heap.size∨W.heap.size≤j from fun j hj=>(HP3.out.2.2.1 j hj).imp (HLL.out j) id);clear ho hb8 hc8 d0 dl hks;go_wp2_with fail;go_loopw [80] (fun iv wr=>∃ j:Nat,j≤ks.length∧iv=.int .i64 j∧PTo w8 L3 ((P.backTo k).restores K (ks.take j)) wr) (fun iv _=>ks.length - (intOf iv).toNat)
  case atStart=>exact ⟨0,Nat.zero_le _,rfl,PTo.refl HP8.out⟩
  case round=>
   obtain ⟨j,hj,rfl,hto⟩:=hrel;obtain ⟨L4,g4,p4,f4,c4⟩:=hto;have hnf:∀ i,w1.heap.size≤i→i<W.heap.size→¬ L3.F i:=fun i h1 h2 e=>by rcases HNF.out i e with e | e <;> omega
   have hM8:=HM8.out;have hDW:=HMM.out.2.2.1;have hW3:=HMM.out.2.2.2;have hD8:=c4.keep hM8.2.2 (hnf D (by have:=HWB.out.1;omega) hDW);have HG4:=hid (And.intro g4 (And.intro p4 (And.intro f4 (And.intro c4 hD8))));by_cases hlt:j<ks.length
   ·have ho4:=HO8.out.1.ch c4 fun i hi e=>by have:=(HO8.out.1.lt i hi).1;have:=HP3.out.1.lt e;omega
    obtain ⟨bk,ck,hvk,hbk,hck,-⟩:=fI ho4 (fun _=>rfl) hlt;injection hvk with e1 e2 e3
    subst e1 e3;have hcn:=hck _ rfl;have him4:=hM8.1.ch c4 (hnf _ (Nat.le_refl _) (by omega));have hgi4:=c4.keep hM8.2.1 (hnf _ (by omega) (by omega));have hcr:=HCB.out.rs K HMM.out.1 j ks[j] (by rw [HO8.out.2.2];exact List.getElem?_eq_getElem hlt);have hup:=pN (P.backTo k) K ks hlt;rw [HO8.out.2.2] at hcr;obtain ⟨hn0,hcr⟩:=hcr;have hj0:(0:Int)≤(j:Int):=by omega
    have hj1:(j:Int)<(ks.length:Int):=by omega
    have HJ:=hid (And.intro hj hlt);generalize ks[j]=n at *;obtain ⟨q,rfl⟩:∃ q:Nat,n=q:=⟨n.toNat,by omega⟩;rw [Int.toNat_natCast] at hcr hup;have hlook:=him4.look xM (a:=(q:Int)) (bD (by have:=hcr.lt;omega));rw [show qg xJ (.string ⟨#[]⟩) (aC K (q:Int))=.string (aj ((aC K (q:Int)).getD [])) by cases aC K (q:Int) <;> rfl] at hlook;have HRS:=hid (oz q ((aC K (q:Int)).getD []) wr p4 hcr);rw [g4,HP3.out.2.1] at HRS;have HUP:=hid hup;generalize (aC K (q:Int)).getD []=im at *;have d0:wr.cell? ⟨w1.heap.size+1,0,none⟩=some (.map (some w1.heap.size)):=aa hgi4 0;have dl:=aO hgi4;unfold ny at hlook;unfold ai at HRS;clear g4 p4 f4 c4 hnf hM8 hDW hW3 hD8 ho4 hck e2 him4 hgi4 hcr hn0 hup hj;go_wp2_with fail;refine HRS.out.mono ?_;rintro e w9 ⟨rfl,hr⟩;have HR9:=hid (show PTo w8 L3 ((P.backTo k).restores K (ks.take (j+1))) w9 from by
     rw [HUP.out];exact PTo.and HG4.out.1 HG4.out.2.2.1 HG4.out.2.2.2.1 hr)
    clear hr;go_wp2_with fail;go_roundw
    case rel=>exact ⟨j+1,by have:=HJ.out;omega,by go_num,HR9.out⟩
    case measure=>simp [intOf];omega
   ·obtain rfl:j=ks.length:=by omega
    have hbk:(P.backTo k).restores K (ks.take ks.length)=P.back k K:=by rw [List.take_length,← HO8.out.2.2];rfl
    rw [hbk] at p4;have HP4:=hid p4;clear g4 p4 f4 c4 hnf hM8 hDW hW3 hlt hj hbk;go_wp2_with fail;have hD9:=HG4.out.2.2.2.2;refine ⟨by simp,.inl ⟨_,_,rfl,run_takeDeferred hD9,?_⟩⟩;refine ⟨_,results_tmp rfl _ _ _,rfl,K,HMM.out.1,?_⟩
    have hnD:¬ L3.F D:=fun e=>by
     have:=HWB.out.1;have:=HMM.out.2.2.1;rcases HNF.out D e with e | e <;> omega
    have h78:Ch (fun _=>False) w7 w8:=Ch.of_below HO8.out.2.1;have hDw8:D<w8.heap.size:=aO HM8.out.2.2;have hs1:=HB1.out.size;have hsW:=HMM.out.2.1.size;have hs7:=HP3.out.2.2.2.size;have hs8:=h78.size;have hc1:Ch L.F w w7:=((Ch.of_below HB1.out).trans (Ch.of_below HMM.out.2.1)).trans HP3.out.2.2.2;have hF3:∀ i,L3.F i→L.F i∨w.heap.size≤i:=fun i hi=>(HP3.out.2.2.1 i hi).imp id fun e=>by omega
    have hc:Ch L.F w wr:=(hc1.trans (Ch.of_below HO8.out.2.1)).then HG4.out.2.2.2.1 hF3;refine PTo.putD (HG4.out.1.trans HP3.out.2.1) HP4.out (fun i hi=>?_) hc (fun e=>(HG4.out.2.2.1 D e).elim hnD fun e=>by omega) (by have:=HWB.out.1;omega);rcases HG4.out.2.2.1 i hi with e | e
    ·exact hF3 i e
    ·right;omega
end Go.Proofs.YtdmhbgpejppbkaaGreat
namespace Go.Proofs.YtdmhbgpejppbkaaGreat
open Go.RowKit Go.Maps
def Ab.begin (A:Ab):Ab:={ A with busy:=true,wrote:=false,W:=A.H,B:=A.C,S:=[] }
theorem Uz.started {P:Pgr} {C:Int→By} {N:Nat} {B:Int→By} (h:Uz P C N B) (hb:P.busy=false) (hn:P.notes=none):Uz P.started C N B:=by
 refine ⟨⟨h.up.over,h.up.lost,h.up.down,h.up.life⟩,h.s1,h.s2,⟨h.y.d,h.y.core,?_,rfl,h.y.base,h.y.ch,h.y.lenB,h.y.lenC,fun hx=>by cases hx⟩,h.fit,h.N⟩;rcases h.y.md with ⟨its,hm⟩ | ⟨l,its,mk,hm⟩
 ·have e:=hm.jz.no hn;subst e;have hz:=hm.jz;rw [hn] at hz;refine .inl ⟨[],hm.lg,hm.nl,hz,rfl,hm.main,fun x hx m hxm hmb _=>hm.ca x hx m hxm hmb ?_,fun p hp=>(by cases hp),hm.ml,fun s hs=>absurd hs List.not_mem_nil,fun x=>absurd x (Nat.lt_irrefl 0)⟩;unfold Pgr.hasN;rw [hn]
 ·refine .inr ⟨l,its,mk,hm.lg,rfl,rfl,hm.lz,fun _=>?_,fun hx=>by cases hx⟩;show ((aN P.lg:Nat):Int)=mk;rw [hm.idle hb,hm.lg];show ((l.length:Nat):Int)=_;rw [hm.lz.len]
theorem Rz.begun {P:Pgr} {A:Ab} {t:Nat} (h:Rz P A t) (hb:A.busy=false) (ht:t≤74):Rz P.started A.begin (t+1):=by
 have h0:=h.same ht;obtain ⟨N,B,u,sv,hN,hNt,hB⟩:=h0.pg;have hi:=h.idle hb;have enow:A.now=A.H:=by unfold Ab.now;rw [hb];rfl
 have epgs:A.pgs=A.C:=by unfold Ab.pgs;rw [hb];rfl
 rw [enow] at hN hB;rw [epgs] at hB;refine ⟨h0.head,rfl,fun _=>rfl,fun _=>h0.head,h0.hok,fun _=>qA h0.hok,h0.bse,h0.hp,fun _=>h0.hp,h0.hc,fun _=>⟨rfl,rfl⟩,h0.md,h0.lgn,fun hx=>(by cases hx),fun a ha=>absurd ha List.not_mem_nil,⟨N,B,u.started (h.busy.trans hb) hi.2.2,.nil,hN,hNt,hB⟩,h0.t,fun _ _=>⟨rfl,(u.y.calm (h.busy.trans hb)).1,fun l hl=>by show ((aN P.lg:Nat):Int)=_;rw [show P.lg=some l from hl];rfl,rfl,fun _ _ _=>rfl,fun a ha=>absurd ha List.not_mem_nil,fun s hs=>absurd hs List.not_mem_nil⟩,h.gd⟩
theorem qd (w:World) {L:PgL} {P:Pgr} {A:Ab} {t:Nat} (h:PgIs w L P) (hs:Rz P A t) (ht:t≤74):
  Calls Tryz.prog 19 #[ai L.gp] w fun e w'=>e=.returned (.int .i64 (if A.busy then 40 else 0))∧RTo w L (if A.busy then A else A.begin) (t+1) w':=by
 refine (ik w h hs.up).mono ?_;rw [hs.busy];rintro e w1 ⟨rfl,hp⟩;cases hb:A.busy
 ·rw [hb] at hp;exact ⟨rfl,_,hs.begun hb ht,hp⟩
 ·rw [hb] at hp;exact ⟨rfl,_,hs.same ht,hp⟩
def Ab.save (A:Ab):Ab:={ A with S:=A.S ++ [(A.W,A.B)] }
theorem Rz.saved {P:Pgr} {A:Ab} {t:Nat} (h:Rz P A t) (hb:A.busy=true) (ht:t≤74) (h16:P.saves.length<16):Rz P.saved A.save (t+1):=by
 obtain ⟨N,B,u,sv,hN,hNt,hB⟩:=h.pg;have enow:A.now=A.W:=by unfold Ab.now;rw [hb];rfl
 have epgs:A.pgs=A.B:=by unfold Ab.pgs;rw [hb];rfl
 rw [enow] at hN hB;rw [epgs] at hB;have hwk:=h.work hb;have hlen:=sv.len;have e:A.save={ A with W:=A.W,B:=A.B,wrote:=A.wrote,S:=A.S ++ [(A.W,A.B)] }:=rfl;rw [e];have hU:Uz P.saved A.C N B:=by
  refine u.setSaves (P.saves ++ [⟨P.work,[]⟩]) fun hl s hs p hp m hpm hmb=>?_
  obtain ⟨its,hm⟩:=u.jmode hl;rcases List.mem_append.1 hs with hs | hs
  ·exact hm.img s hs p hp m hpm hmb
  ·rw [List.mem_singleton.1 hs] at hp;exact absurd hp List.not_mem_nil
 refine h.next hb (Q:=P.saved) ⟨rfl,rfl,rfl,rfl,rfl,rfl,rfl,rfl,rfl,rfl,rfl⟩ (by show aN P.lg≤_;omega) ht hwk (h.wrote hb) (h.wok hb) (by have:=h.wp hb;omega) ⟨rfl,rfl⟩ (fun hw0=>?_) (fun a ha=>?_) hU ?_ hN (by omega) hB
 ·have k:=h.cm hb hw0;refine ⟨k.nt,k.cl,k.lg,k.W,k.B,fun a ha=>?_,fun s hs=>?_⟩
  ·rcases List.mem_append.1 ha with ha | ha
   ·exact k.S a ha
   ·rw [List.mem_singleton.1 ha];exact ⟨k.W,k.B⟩
  ·rcases List.mem_append.1 hs with hs | hs
   ·exact k.im s hs
   ·rw [List.mem_singleton.1 hs]
 ·rcases List.mem_append.1 ha with ha | ha
  ·exact h.svk2 a ha
  ·rw [List.mem_singleton.1 ha];have:=h.wc hb;exact ⟨h.wok hb,by have:=h.wp hb;show A.W.pages≤_;omega,this.2,this.1⟩
 ·show SvZ (P.saves ++ [⟨P.work,[]⟩]) (A.S ++ [(A.W,A.B)]) B N;refine ⟨by rw [List.length_append,List.length_append,hlen];rfl,fun i s a hi ha=>?_,fun s hs=>?_,fun s hs=>?_,by rw [List.length_append,List.length_singleton];omega⟩
  ·have hil:=cB hi;rw [List.length_append,List.length_singleton] at hil;have hdr:(P.saves ++ [(⟨P.work,[]⟩:Sv)]).drop i=P.saves.drop i ++ [(⟨P.work,[]⟩:Sv)]:=List.drop_append_of_le_length (by have:i<P.saves.length+1:=hil;omega);by_cases hik:i<P.saves.length
   ·rw [List.getElem?_append_left hik] at hi;rw [List.getElem?_append_left (by omega)] at ha;obtain ⟨e1,e2⟩:=sv.at_ i s a hi ha;refine ⟨e1,fun m m1 m2=>?_⟩;rw [hdr,cG];exact e2 m m1 m2
   ·have ei:i=P.saves.length:=by omega
    subst ei;rw [List.getElem?_append_right (Nat.le_refl _),Nat.sub_self] at hi;rw [List.getElem?_append_right (by omega),hlen,Nat.sub_self] at ha;injection hi with hi
    injection ha with ha
    subst hi ha;refine ⟨hwk,fun m m1 m2=>?_⟩;rw [hdr,List.drop_eq_nil_of_le (Nat.le_refl _)];exact hB m m1 (by rw [← hwk];exact m2)
  ·rcases List.mem_append.1 hs with hs | hs
   ·exact sv.im s hs
   ·rw [List.mem_singleton.1 hs];exact ⟨List.nodup_nil,fun _ h=>absurd h List.not_mem_nil⟩
  ·rcases List.mem_append.1 hs with hs | hs
   ·exact sv.pg s hs
   ·rw [List.mem_singleton.1 hs];show P.work.pages≤N;rw [hwk];exact hN
theorem rJ (w:World) {L:PgL} {P:Pgr} {A:Ab} {t:Nat} (h:PgIs w L P) (hs:Rz P A t) (hb:A.busy=true) (ht:t≤74) (h16:P.saves.length<16):
  Calls Tryz.prog 40 #[ai L.gp] w fun e w'=>e=.returned (.int .i64 0)∧RTo w L A.save (t+1) w':=by
 refine (mW w h hs.up (hs.busy.trans hb) h16).mono ?_;rintro e w1 ⟨rfl,hp⟩;exact ⟨rfl,_,hs.saved hb ht h16,hp⟩
def Ab.back (A:Ab) (k:Nat):Ab:=match A.S[k]? with
 | some a=>{ A with W:=a.1,B:=a.2,S:=A.S.take (k+1) }
 | none=>A
theorem rZ (k:Nat) (w:World) {L:PgL} {P:Pgr} {A:Ab} {t:Nat} (h:PgIs w L P) (hs:Rz P A t) (hb:A.busy=true) (ht:t≤74) (hk:k<P.saves.length):
  Calls Tryz.prog 41 #[ai L.gp,.int .i64 ((k:Int)+1)] w fun e w'=>e=.returned (.int .i64 0)∧RTo w L (A.back k) (t+1) w':=by
 obtain ⟨N,B,u,sv,hN,hNt,hB⟩:=hs.pg;have hl:=hs.lgn;have hbP:=hs.busy.trans hb;have hlen:=sv.len;obtain ⟨v,hv⟩:∃ v,P.saves[k]?=some v:=⟨P.saves[k],List.getElem?_eq_getElem hk⟩;obtain ⟨a,ha⟩:∃ a,A.S[k]?=some a:=⟨A.S[k],List.getElem?_eq_getElem (by omega)⟩;have hgd:P.saves.getD k gF=v:=by rw [List.getD_eq_getElem?_getD,hv];rfl
 obtain ⟨e1,e2⟩:=sv.at_ k v a hv ha;have hsk:=hs.svk a (List.mem_of_getElem? ha);refine (mZ k w h hs.up hbP ⟨hk,fun s hx=>Nat.le_trans (sx (sv.im s hx)) (by omega),by rw [hgd,e1];exact hsk.1.p2,fun K hK=>?_⟩).mono ?_
 ·obtain ⟨N',B',-,hZ⟩:=xy u sv hbP (by omega) hk hK;exact hZ.rs
 ·rintro e w1 ⟨rfl,K,hK,hp⟩;obtain ⟨N',B',hNN,hZ⟩:=xy u sv hbP (by omega) hk hK;refine ⟨rfl,_,?_,hp⟩;have eA:A.back k={ A with W:=a.1,B:=a.2,wrote:=A.wrote,S:=A.S.take (k+1) }:=by unfold Ab.back;rw [ha]
  rw [eA];have hS':∀ b ∈ A.S.take (k+1),Wok b.1∧b.1.pages≤t+2∧b.1.mode=A.H.mode∧b.1.change=A.H.change:=fun b hx=>hs.svk2 b (List.mem_of_mem_take hx)
  have hwc:=hs.wc hb;have hwork:(P.back k K).work=a.1:=by rw [hZ.same.1];show (P.saves.getD k gF).head=a.1;rw [hgd,e1]
  have hwr:(P.back k K).wrote=A.wrote:=by rw [hZ.same.1];exact hs.wrote hb
  have hNp:=hZ.N;rw [hgd,e1] at hNp;have hkp:Keep P (P.backTo k):=⟨rfl,rfl,rfl,rfl,rfl,rfl,rfl,rfl,rfl,rfl,rfl⟩;obtain ⟨v',hv',hh'⟩:∃ v',(P.back k K).saves[k]?=some v'∧dM ((P.back k K).saves.drop k)=dM [⟨v.head,[]⟩]∧v'.head=v.head:=by
   have es:(P.back k K).saves=P.saves.take k ++ [⟨v.head,[]⟩]:=by rw [hZ.same.1];show P.saves.take k ++ [⟨(P.saves.getD k gF).head,[]⟩]=_;rw [hgd]
   refine ⟨⟨v.head,[]⟩,?_,?_,rfl⟩
   ·rw [es,List.getElem?_append_right (by rw [List.length_take];omega),List.length_take,Nat.min_eq_left (by omega),Nat.sub_self];rfl
   ·rw [es,List.drop_append_of_le_length (by rw [List.length_take];omega),List.drop_eq_nil_of_le (by rw [List.length_take];omega)];rfl
  obtain ⟨f1,f2⟩:=hZ.sv.at_ k v' a hv' (by rw [List.getElem?_take_of_lt (by omega)];exact ha);refine hs.next hb (hkp.trans hZ.same.x.keep) (by have:=hZ.lg;omega) ht hwork hwr hsk.1 (by have:=hsk.2.1;omega) ⟨hsk.2.2.2.trans hwc.1.symm,hsk.2.2.1.trans hwc.2.symm⟩ (fun hw0=>?_) hS' hZ.u hZ.sv hNp (by omega) fun m m1 m2=>?_
  ·have kc:=hs.cm hb hw0;have hK0:K=[]:=by
    cases hKe:K with
    | nil=>rfl
    | cons p r=> obtain ⟨s,hs2,hp⟩:=(iP hK fun s hs2=>(sv.im s (List.mem_of_mem_drop (List.mem_reverse.1 hs2))).1).2.1 p (by rw [hKe];simp);rw [kc.im s (List.mem_of_mem_drop (List.mem_reverse.1 hs2))] at hp;exact absurd hp List.not_mem_nil
   have hbk0:P.back k K=P.backTo k:=by rw [hK0];unfold Pgr.back;rw [List.map_nil,show bF []=[] by simp [bF]];rfl
   obtain ⟨q1,q2⟩:=kc.S a (List.mem_of_getElem? ha);rw [hbk0];refine ⟨kc.nt,kc.cl,kc.lg,q1,q2,fun b hb2=>kc.S b (List.mem_of_mem_take hb2),fun s hs2=>?_⟩;have hs3:s ∈ P.saves.take k ++ [(⟨(P.saves.getD k gF).head,[]⟩:Sv)]:=hs2;rcases List.mem_append.1 hs3 with hs3 | hs3
   ·exact kc.im s (List.mem_of_mem_take hs3)
   ·rw [List.mem_singleton.1 hs3]
  have:=f2 m m1 (by rw [f1];exact m2);rw [hh'.1] at this;exact this
def eM (B:Int→By):Int→By:=fun n=>if (B n).length=232 then B n else bK
theorem nV (B:Int→By) (n:Int):(eM B n).length=232:=by
 unfold eM
 split
 ·assumption
 ·exact List.length_replicate
theorem xr {B:Int→By} {n:Int} (h:(B n).length=232):eM B n=B n:=by unfold eM;rw [if_pos h]
def Ab.W1 (A:Ab):He:={ A.W with change:=A.W.change+1 }
def Ab.com (A:Ab):Ab:={ A with H:=A.W1,C:=eM A.B,busy:=false,S:=[] }
structure TrimZ (d:Dk) (p:Nat):Prop where
 z:Dz (bz d p)
 now:∀ m,m≠aA→(bz d p).now m=d.now m
 has:∀ m,m≠aA→(bz d p).has m=d.has m
 on:∀ (m:Nat) t,m<p→aF d m t→aF (bz d p) m t
 life:(bz d p).life=d.life
theorem og {d:Dk} (h:Dz d) (p:Nat):TrimZ d p:=by
 by_cases hq:(p:Int)<d.size aA
 ·have e:bz d p=d.setF aA (·.cut p):=if_pos hq;refine ⟨by rw [e];exact h.cut (by simp) _,fun m hm=>by rw [e,gM h.ok,if_neg hm],fun m hm=>by rw [e,cQ h.ok,decide_eq_false hm];rfl,fun m t hm ho=>?_,by rw [e];rfl⟩;rw [onDisk_iff] at ho ⊢;rw [e,gM h.ok,if_pos rfl,List.getElem?_take_of_lt hm];exact ho
 ·have e:bz d p=d:=if_neg hq;exact ⟨by rw [e];exact h,fun m _=>by rw [e],fun m _=>by rw [e],fun m t _ ho=>by rw [e];exact ho,by rw [e]⟩
theorem ph (Q:Pgr):Q.com1=({ Q.based with ca:=pn Q.work.pages Q.ca (aK Q.ca) }:Pgr).ended:=by unfold Pgr.com1;rw [sU];rfl
structure ComR (P Q:Pgr) (A:Ab) (t:Nat):Prop where
 can:CanCom2 P Q
 r:Rz Q.com A.com (t+1)
theorem Rz.com {P:Pgr} {A:Ab} {t:Nat} (h:Rz P A t) (hb:A.busy=true) (ht:t≤74) (hg:A.W1.Good):∃ Q,ComR P Q A t:=by
 obtain ⟨N,B,u0,sv,hN,hNt,hB⟩:=h.pg;have enow:A.now=A.W:=by unfold Ab.now;rw [hb];rfl
 have epgs:A.pgs=A.B:=by unfold Ab.pgs;rw [hb];rfl
 rw [enow] at hN hB;rw [epgs] at hB;have hwk:=h.work hb;have hwc:=h.wc hb;have hw:=h.wok hb;have hwp:=h.wp hb;have hcc:=h.hc;have hlgn:=h.lgn;have hp1:=hw.p1;have u:Uz P.bump A.C N B:=u0.setWork { P.work with change:=P.work.change+1 } P.wrote;have hbw:P.bump.work=A.W1:=by show ({ P.work with change:=P.work.change+1 }:He)=_;rw [hwk];rfl
 have hbp:P.bump.work.pages=A.W.pages:=by rw [hbw];rfl
 have hca:(P.ca.length:Int)≤P.size:=u.fit;have hs2:P.size≤256:=u.s2;have hdl:=nS P.ca
 have hnums:∀ x ∈ aK P.ca,gE x.n:=fun x hx=>by
  obtain ⟨e,he,-,rfl⟩:=dirty_mem.1 hx;obtain ⟨m,s,a,b,c,-⟩:=u.y.core.rng e he;show gE e.1;rw [a];exact bD (by omega)
 have hlenB:∀ m:Nat,1≤m→m<A.W.pages→eM A.B m=B m:=fun m m1 m2=>by
  rw [xr (by rw [← hB m m1 m2];exact u.y.lenB _),hB m m1 m2]
 have hbse:A.com.H.pages=A.W.pages:=rfl
 have hx:∀ e ∈ P.ca,e.2.2=true→∀ m:Nat,e.1=m→m<A.W.pages→fH e ∈ (aK P.ca).filter (ez P.bump.work.pages)∧bs (fH e).s=B m:=fun e he hd m hm hmp=>by
  refine ⟨List.mem_filter.2 ⟨dirty_mem.2 ⟨e,he,hd,rfl⟩,decide_eq_true (by rw [hbp];show e.1<_;omega)⟩,?_⟩;obtain ⟨m',s,a,b,c,d,e5,f⟩:=u.y.core.rng e he;have:m'=m:=by omega
  subst this;show bs e.2.1=_;rw [d,aR];exact f (by omega)
 rcases h.md with ⟨hmode,hl⟩ | ⟨hmode,hl⟩
 ·have hl':P.bump.lg=none:=hl;obtain ⟨its,hm⟩:=u.jmode hl';obtain ⟨Q,hQ⟩:=wh u hl' fun _=>by show P.head.Good;rw [h.head];exact h.hok
  have hQd:=hQ.eq;have hQca:Q.ca=P.ca:=by rw [hQd];rfl
  have hQw:Q.work=A.W1:=by rw [hQd];exact hbw
  have hQl:Q.lg=none:=by rw [hQd];exact hl
  refine ⟨Q,⟨by rw [hbw];exact hg,by rw [hwk];omega,fun _ w L v base hp ho hap=>hQ.st w L v base hp ho hap,fun hn=>(hn hl).elim,by rw [hQl,hl],by rw [hQca];exact hnums,by omega,by rw [hQca];omega,by rw [hQw];exact hw.p2,hQ.z.fine⟩,?_⟩;have e1:Q.com1={ P with d:=Q.d,ca:=pn A.W.pages P.ca (aK P.ca),head:=A.W1,base:=A.W.pages,work:=A.W1,busy:=false,wrote:=false,saves:=[],notes:=none,marred:=false,spoilt:=false }:=by rw [ph,hQca];unfold Pgr.based Pgr.ended;rw [hQw,hQd];rfl
  have e2:Q.com={ P with d:=bz Q.d A.W.pages,ca:=pn A.W.pages P.ca (aK P.ca),head:=A.W1,base:=A.W.pages,work:=A.W1,busy:=false,wrote:=false,saves:=[],notes:=none,marred:=false,spoilt:=false }:=by unfold Pgr.com;rw [hQl,e1];rfl
  have hT:=og hQ.z A.W.pages
  have hst:∀ m s,bu Q.com m s↔aF (bz Q.d A.W.pages) m s:=fun m s=>by
   rw [aU (show Q.com.lg=none by rw [e2];exact hl),e2]
  obtain ⟨k1,k2,k3⟩:=mi (T':=bu Q.com) u.y.core hN (fun e he hd m hm hmp=>by
   obtain ⟨a,b⟩:=hx e he hd m hm hmp;rw [hst,← b];exact hT.on m _ hmp (hQ.on (fH e) (List.mem_cons_of_mem _ a) m hm)) fun m m1 m2 hcl hs=>by
   rw [aU hl'] at hs;rw [hst];refine hT.on m _ m2 (hQ.old m _ (fun x hx2=>?_) hs);rcases List.mem_cons.1 hx2 with rfl | hx2
   ·show (0:Int)≠m;omega
   ·intro e;obtain ⟨y,hy,hyd,rfl⟩:=dirty_mem.1 (List.mem_filter.1 hx2).1;rw [hcl y hy e] at hyd;cases hyd
  have hon:∀ m:Nat,1≤m→m<A.W.pages→aF (bz Q.d A.W.pages) m (B m):=fun m m1 m2=>(hst m _).1 (k3 m m1 m2)
  have hx0:aF (bz Q.d A.W.pages) 0 (bh P.bump.work):=by refine hT.on 0 _ (by omega) ?_;have:=hQ.on ⟨0,aj (bh P.bump.work)⟩ (by unfold Pgr.comL;exact List.mem_cons_self) 0 rfl;rw [aR] at this;exact this
  have hml:A.W.pages≤((bz Q.d A.W.pages).now aA).length:=by
   by_cases h1:A.W.pages=1
   ·rw [h1] at hx0 ⊢;rw [onDisk_iff] at hx0;exact cB hx0
   ·have:=hon (A.W.pages - 1) (by omega) (by omega);rw [onDisk_iff] at this;have:=cB this;omega
  have hU:Uz Q.com (eM A.B) A.W.pages B:=by
   rw [e2] at k1 ⊢;refine ⟨⟨u.up.over,u.up.lost,hT.z.fine.up,?_⟩,u.s1,u.s2,⟨hT.z,k1,.inl ⟨[],hl,?_,iS ?_,rfl,fun m m1 m2 _=>?_,fun x hx m hxm hmb _=>?_,fun p hp=>(by cases hp),hml,fun s hs=>absurd hs List.not_mem_nil,fun x=>absurd x (Nat.lt_irrefl 0)⟩,rfl,by show A.W.pages≤80;have:=u.N;omega,by show A.W.change+1<1000;omega,u.y.lenB,nV _,fun _=>⟨k2,rfl⟩⟩,?_,by have:=u.N;omega⟩
   ·exact (hT.life.trans hQ.life).trans u.up.life
   ·exact ((hT.has bf ma_lo.symm).trans hQ.nl).trans hm.nl
   ·exact (hT.has aQ jn_ne).trans hQ.nj
   ·rw [hlenB m m1 m2];exact hon m m1 m2
   ·refine ⟨k2 x hx,?_⟩;obtain ⟨m',s,a,b,c,d,e5,f⟩:=k1.rng x hx;have:m'=m:=by omega
    subst this;have hmb':m'<A.W.pages:=hmb;rw [d,hlenB m' b hmb',f hmb']
   ·have:=(mN (aK P.ca) A.W.pages P.ca u.y.core.kv).2;show ((pn A.W.pages P.ca (aK P.ca)).length:Int)≤P.size;omega
  refine ⟨by rw [e2];rfl,by rw [e2];rfl,fun x=>(by cases x),fun x=>(by cases x),hg,fun x=>(by cases x),.inl (by rw [e2];rfl),by show A.W.pages≤_;omega,fun x=>(by cases x),by show A.W.change+1≤_;omega,fun x=>(by cases x),.inl ⟨by show A.W.mode=1;omega,by rw [e2];exact hl⟩,by rw [e2];show aN P.lg≤_;omega,fun _=>⟨rfl,by rw [e2],by rw [e2]⟩,fun a ha=>absurd ha List.not_mem_nil,⟨A.W.pages,B,hU,by rw [e2];exact .nil,Nat.le_refl _,by omega,fun m m1 m2=>?_⟩,by omega,fun x=>(by cases x),by rw [e2];exact h.gd⟩;exact (hlenB m m1 m2).symm
 ·obtain ⟨fr,hfr⟩:=Option.isSome_iff_exists.1 hl;have hl':P.bump.lg=some fr:=hfr;obtain ⟨its,mk,hm⟩:∃ its mk,LMode P.bump A.C fr its mk:=by
   rcases u.y.md with ⟨its,hm⟩ | ⟨l,its,mk,hm⟩
   ·have:=hm.lg;rw [hl'] at this;cases this
   ·have:=hm.lg;rw [hl'] at this;injection this with this
    subst this;exact ⟨its,mk,hm⟩
  have hlenf:aN P.lg=its.length:=by rw [hfr];exact hm.lz.len
  obtain ⟨Q,hQ⟩:=Bv u hl' hm.lz (by omega);have hQd:=hQ.eq;have hQca:Q.ca=P.ca:=by rw [hQd];rfl
  have hQw:Q.work=A.W1:=by rw [hQd];exact hbw
  obtain ⟨fr',f1,f2⟩:=hQ.lz;have hCL:=pf u;obtain ⟨ps,hps⟩:∃ ps,(aK P.bump.ca).filter (ez P.bump.work.pages) ++ [(⟨0,aj (bh P.bump.work)⟩:Pg)]=ps:=⟨_,rfl⟩;rw [hps] at f2;have hpl:ps.length≤80:=by have h1:=hCL.len;rw [← hps,List.length_append];unfold Pgr.comL at h1;rw [List.length_cons] at h1;exact h1
  have hmem:∀ x ∈ ps,x ∈ P.bump.comL:=fun x hx=>by
   rw [← hps] at hx;unfold Pgr.comL;rcases List.mem_append.1 hx with hx | hx
   ·exact List.mem_cons_of_mem _ hx
   ·rw [List.mem_singleton.1 hx];exact List.mem_cons_self
  have hpok:∀ x ∈ ps,qU x:=fun x hx=>hCL.ok x (hmem x hx)
  have hpnd:(ps.map (·.n)).Nodup:=by have h1:=hCL.nd;rw [← hps];unfold Pgr.comL at h1;rw [List.map_cons] at h1;rw [List.map_append,List.map_singleton];exact (List.perm_append_comm.nodup_iff).2 h1
  have hfl:fr'.length=its.length+ps.length:=by rw [f2.len,List.length_append];unfold bS;rw [List.length_map]
  refine ⟨Q,⟨by rw [hbw];exact hg,by rw [hwk];omega,fun hn=>(by rw [hfr] at hn;cases hn),fun _ w L v base hp ho _=>hQ.st w L v base hp ho,by rw [f1,hfr];rfl,by rw [hQca];exact hnums,by omega,by rw [hQca];omega,by rw [hQw];exact hw.p2,hQ.z.fine⟩,?_⟩
  have e2:Q.com={ P with d:=Q.d,ca:=pn A.W.pages P.ca (aK P.ca),head:=A.W1,base:=A.W.pages,work:=A.W1,busy:=false,wrote:=false,saves:=[],notes:=none,marred:=false,spoilt:=false,lg:=some fr' }:=by
   have e1:Q.com=Q.com1:=by unfold Pgr.com;rw [f1];rfl
   rw [e1,ph,hQca];unfold Pgr.based Pgr.ended;rw [hQw];have e3:Q={ P.bump with d:=Q.d,lg:=some fr' }:=by rw [← f1];exact hQd
   rw [e3];rfl
  have hnd:∀ m t,aF Q.d m t↔aF P.d m t:=fun m t=>by rw [onDisk_iff,onDisk_iff,hQ.now aA ma_lo];rfl
  have hqd:Q.com.d=Q.d:=by rw [e2]
  have hql:Q.com.lg=some fr':=by rw [e2]
  have hst:∀ (m:Nat) s,s.length=232→(bu Q.com m s↔dp (its ++ bS ps) m=some s∨(dp (its ++ bS ps) m=none∧aF Q.d m s)):=fun m s hs=>ee f2 hqd hql hs
  obtain ⟨k1,k2,k3⟩:=mi (T':=bu Q.com) u.y.core hN (fun e he hd m hm hmp=>by
   obtain ⟨a,b⟩:=hx e he hd m hm hmp;rw [hst m _ (u.y.lenB _),← b];left;exact mF hpok hpnd (by rw [← hps];exact List.mem_append_left _ a) hm) fun m m1 m2 hcl hs=>by
   rw [ee hm.lz rfl hl' (u.y.lenB _)] at hs;rw [hst m _ (u.y.lenB _),lA hpok,hnd]
   ·exact hs
   ·intro x hx2 e;rw [← hps] at hx2;rcases List.mem_append.1 hx2 with hx2 | hx2
    ·obtain ⟨y,hy,hyd,rfl⟩:=dirty_mem.1 (List.mem_filter.1 hx2).1;rw [hcl y hy e] at hyd;cases hyd
    ·rw [List.mem_singleton.1 hx2] at e;have e0:(0:Int)=m:=e;omega
  have hU:Uz Q.com (eM A.B) A.W.pages B:=by
   have k3':∀ m:Nat,1≤m→m<A.W.pages→dp (its ++ bS ps) m=some (eM A.B m)∨(dp (its ++ bS ps) m=none∧aF Q.d m (eM A.B m)):=fun m m1 m2=>by
    rw [hlenB m m1 m2];exact (hst m _ (u.y.lenB _)).1 (k3 m m1 m2)
   rw [e2] at k1 ⊢;refine ⟨⟨u.up.over,u.up.lost,hQ.z.fine.up,hQ.life.trans u.up.life⟩,u.s1,u.s2,⟨hQ.z,k1,.inr ⟨fr',its ++ bS ps,(its ++ bS ps).length,rfl,rfl,rfl,⟨f2.fr,f2.ok,f2.now,f2.nj,Nat.le_refl _,fun m m1 m2=>?_,f2.ml⟩,fun x=>(by cases x),fun _=>rfl⟩,rfl,by show A.W.pages≤80;have:=u.N;omega,by show A.W.change+1<1000;omega,u.y.lenB,nV _,fun _=>⟨k2,rfl⟩⟩,?_,by have:=u.N;omega⟩
   ·rw [List.take_length];exact k3' m m1 m2
   ·have:=(mN (aK P.ca) A.W.pages P.ca u.y.core.kv).2;show ((pn A.W.pages P.ca (aK P.ca)).length:Int)≤P.size;omega
  refine ⟨by rw [e2];rfl,by rw [e2];rfl,fun x=>(by cases x),fun x=>(by cases x),hg,fun x=>(by cases x),.inl (by rw [e2];rfl),by show A.W.pages≤_;omega,fun x=>(by cases x),by show A.W.change+1≤_;omega,fun x=>(by cases x),.inr ⟨by show A.W.mode=2;omega,by rw [hql];rfl⟩,by rw [hql];show fr'.length≤_;omega,fun _=>⟨rfl,by rw [e2],by rw [e2]⟩,fun a ha=>absurd ha List.not_mem_nil,⟨A.W.pages,B,hU,by rw [e2];exact .nil,Nat.le_refl _,by omega,fun m m1 m2=>?_⟩,by omega,fun x=>(by cases x),by rw [e2];exact h.gd⟩;exact (hlenB m m1 m2).symm
end Go.Proofs.YtdmhbgpejppbkaaGreat
