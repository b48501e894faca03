/- slices.Insert at rows of the call's own. -/
import Derived.Test.YtknioodagnjchaaGreatDoorRNb
import Derived.Test.YtknioodagnjchaaGreatDoorRSp
import Derived.Test.YtknioodagnjchaaGreatDoorRTSl
import Derived.Lib.AppendZerosOnto
import Derived.Lib.Overlaps
import Derived.Deep.RegionLaw
import Derived.Shelf.Spec.SlicesInsertGrow
set_option maxRecDepth 100000
set_option maxHeartbeats 4000000
namespace Go.Proofs.YtknioodagnjchaaGreatDoor
open Go.Lib (hid)
open Go.RowKit
theorem eG {w:World} {g:Nat} {cs:Array Value} {e:TypeId} (h:w.heap[g]?=some (.cells cs e (0,0))):w.shape? g=some (e,cs.size):=by unfold World.shape?;rw [h]
theorem oi (xs:List By) (i:Nat) (y:By) (base g c vb vc:Nat) (tA:TypeId) (w:World) (h:Own sC 1 9 base w (.slice (some ⟨g,0,none⟩) xs.length c) xs) (hi:i<xs.length) (hroom:xs.length+1≤c) (hv:w.heap[vb]?=some (.cells (sC y).toArray tA (0,0))) (hvb:vb≠g):
  Calls Tryz.prog 71 #[.slice (some ⟨g,0,none⟩) xs.length c,.int .i64 i,.slice (some ⟨vb,0,none⟩) 1 vc] w fun e w'=>
   e=.returned (.slice (some ⟨g,0,none⟩) (xs.length+1) c)∧w'=(w.drew.setCells g (i+1) ((xs.drop i).flatMap sC)).setCells g (i) (sC y):=by
 have hz:(Tryz.prog.info? 9).map (·.size)=some 1:=by kernel_rfl
 have hso:∀ w,(Go.sizeOf 9).run Tryz.prog w=.ok 1 w:=fun _=>rfl
 have hu:=Tryz.underlying22;obtain ⟨cur,hg,hcm,hcs,htk⟩:∃ cur:Array Value,w.heap[g]?=some (.cells cur 9 (0,0))∧c≤maxLen∧cur.size=c * 1∧cur.toList.take (xs.length * 1)=xs.flatMap sC:=by
  rcases h.2 with ⟨hv,_⟩ | ⟨g',cap,cur,hv,_,hg,_,hm,hc,ht⟩
  ·cases hv
  ·injection hv with e1 e2 e3
   injection e1 with e1
   injection e1 with e1
   subst e1 e3;exact ⟨cur,hg,hm,hc,ht⟩
 unfold maxLen at hcm;have hcell:∀ j,j<c * 1→(w.cell? ⟨g,j,none⟩).isSome=true:=fun j hj=>by rw [ac hg,Array.getElem?_eq_getElem (by omega)];rfl
 have hread:∀ j v,(xs.flatMap sC)[j]?=some v→w.cell? ⟨g,j,none⟩=some v:=fun j v hj=>by
  rw [← htk,List.getElem?_take] at hj
  split at hj
  ·rw [ac hg];simpa using hj
  ·cases hj
 have hov:∀ lb cb,(callFunc 125 #[.slice (some ⟨vb,0,none⟩) 1 vc,.slice (some ⟨g,i+1,none⟩) lb cb]).run Tryz.prog w=.ok (.value (.bool false)) w:=fun lb cb=>by
  rw [run_callFunc_extern Tryz.func125 (by kernel_rfl) (by kernel_rfl) (by kernel_rfl) (e:=Extern.SlicesOverlaps.overlaps #[22,22] #[4]) (by kernel_rfl),
   Lib.run_overlaps_apart w 22 4 9 hu 1 hso ⟨vb,0,none⟩ ⟨g,i+1,none⟩ 1 vc lb cb hvb tA 9 (sC y).toArray.size cur.size (eG hv) (eG hg) (by rw [hcs];omega) (ab hv _) (ab hv _)]
  rfl
 have hdl:((xs.drop i).flatMap sC).length=(xs.length - i) * 1:=by rw [ax sC 1 (f8).hl,List.length_drop]
 have hcp1:∀ ty dc sc,(Builtin.copy_ #[22,22] ty #[.slice (some ⟨g,i+1,none⟩) (xs.length - i) dc,.slice (some ⟨g,i,none⟩) (xs.length+1 - i) sc]).run Tryz.prog w.drew=.ok (goInt ((xs.length - i:Nat):Int)) (w.drew.setCells g (i+1) ((xs.drop i).flatMap sC)):=fun ty dc sc=>by
  have:=bE (P:=Tryz.prog) w.drew 22 22 ty 9 g (i+1) (xs.length - i) dc ⟨g,i,none⟩ (xs.length+1 - i) sc ((xs.drop i).flatMap sC) 1 hu hz
   (by rw [hdl];congr 1;simp only [Nat.min_def];split <;> omega)
   (fun j v hj=>by rw [Addr.add_lit];exact hread _ v (by rw [← cM (f8).hl,List.getElem?_drop] at hj;first | exact hj | simpa using hj))
   (fun j hj=>hcell _ (by omega)) (fun j hj=>ab hg _)
   (fun v hv=>by
     obtain ⟨x,_,hx⟩:=List.mem_flatMap.1 hv;exact (f8).h1 x v hx)
  rw [show Nat.min (xs.length+1 - i) (xs.length - i)=xs.length - i by simp only [Nat.min_def];split <;> omega] at this;exact this
 obtain ⟨W1,hW1⟩:∃ W1,W1=w.drew.setCells g (i+1) ((xs.drop i).flatMap sC):=⟨_,rfl⟩;have hs1:=bA ((xs.drop i).flatMap sC) (i+1) (w:=w.drew) hg (by omega);rw [← hW1] at hs1;have hv1:W1.heap[vb]?=some (.cells (sC y).toArray tA (0,0)):=by rw [hW1];exact ((Ch.refl (fun k=>k=g) w).drew.trans (cD _ _ _)).keep hv hvb
 have hyl:(sC y).length=1:=(f8).hl y
 have hcp2:∀ (W:World),W.heap=W1.heap→∀ ty dc,(Builtin.copy_ #[22,22] ty #[.slice (some ⟨g,i,none⟩) (xs.length+1 - i) dc,.slice (some ⟨vb,0,none⟩) 1 vc]).run Tryz.prog W=.ok (goInt ((1:Nat):Int)) (W.setCells g (i) (sC y)):=fun W hW ty dc=>by
  have hgW:=hs1;have hvW:=hv1;rw [← hW] at hgW hvW;have:=bE (P:=Tryz.prog) W 22 22 ty 9 g (i) (xs.length+1 - i) dc ⟨vb,0,none⟩ 1 vc (sC y) 1 hu hz
   (by rw [hyl];simp only [Nat.min_def];split <;> omega)
   (fun j v hj=>by rw [Addr.add_lit,ac hvW];simpa using hj)
   (fun j hj=>by rw [ac hgW,Array.getElem?_eq_getElem (by simp only [List.size_toArray,List.length_append,List.length_take,List.length_drop,Array.length_toList,hdl];omega)];rfl)
   (fun j hj=>ab hgW _)
   (fun v hv=>(f8).h1 y v hv)
  rw [show Nat.min 1 (xs.length+1 - i)=1 by simp only [Nat.min_def];split <;> omega] at this;exact this
 rw [← hW1] at hcp1 ⊢;have hzi:(1:Int)≠0:=by decide
 have mixed:Tryz.prog.follows .mixedOrders=true:=by kernel_rfl
 have hz2:¬ ((i:Int)=(xs.length:Int)):=by omega
 have hw1:IntKind.i64.wrap ((i:Int)+1)=(i:Int)+1:=by rw [IntKind.wrap_i64];omega
 have hw2:IntKind.i64.wrap ((xs.length:Int)+1)=(xs.length:Int)+1:=by rw [IntKind.wrap_i64];omega
 have hb1:(0:Int)≤(i:Int)+1:=by omega
 have hin:i≤xs.length:=by omega
 have htn:((i:Int)+1).toNat=i+1:=by omega
 have htn2:((xs.length:Int)+1).toNat=xs.length+1:=by omega
 have hb2:¬ (c=i+1):=by omega
 have hb3:(i:Int)≤(xs.length:Int)+1:=by omega
 have hb4:¬ (c=i):=by omega
 clear hs1 hv1 hcell hread htk hcs hg hdl hz hso h hv;go_enter Tryz.func71,Tryz.ntmps71;go_wp2_with (simp only [hov]);go_region_law_o (refine step_copy_runI rfl _ _ 22 22 rfl _ _ (by simp [Act.eval,Act.put]) (by simp [Act.eval,Act.put]) (hcp1 _ _ _) ?_);go_wp2_with (at_builtin;refine wpList_copy_runI _ rfl _ _ 22 22 rfl _ _ rfl rfl (hcp2 _ rfl _ _) ?_);go_ret
 first | exact ⟨rfl,rfl⟩ | exact ⟨rfl,by rw [hW1]⟩
theorem pS (xs:List By) (i:Nat) (y:By) (base g c vb vc:Nat) (tA:TypeId) (w:World) (h:Own sC 1 9 base w (.slice (some ⟨g,0,none⟩) xs.length c) xs) (hi:i<xs.length) (hnr:c<xs.length+1) (hbase:base≤w.heap.size) (hn:xs.length≤100000) (hv:w.heap[vb]?=some (.cells (sC y).toArray tA (0,0))):
  Calls Tryz.prog 71 #[.slice (some ⟨g,0,none⟩) xs.length c,.int .i64 i,.slice (some ⟨vb,0,none⟩) 1 vc] w fun e w'=>
   ∃ v',e=.returned v'∧Own sC 1 9 base w' v' (xs.insertIdx i y)∧w.grownBy w' (some g)∧(v'.ownBlock=some g∨v'.ownBlock=some w.heap.size):=by
 have mixed:Tryz.prog.follows .mixedOrders=true:=by kernel_rfl
 have hz:(Tryz.prog.info? 9).map (·.size)=some 1:=by kernel_rfl
 have hu:=Tryz.underlying22;have hui:=Tryz.underlying3;obtain ⟨_,⟨i0,z,hi0,hz0,hsz,hby,hzs⟩,_,hl,h1⟩:=f8;obtain ⟨cur,hg,hnc,htk⟩:∃ cur:Array Value,w.heap[g]?=some (.cells cur 9 (0,0))∧xs.length≤c∧cur.toList.take (xs.length * 1)=xs.flatMap sC:=by
  rcases h.2 with ⟨hv,_⟩ | ⟨g',cap,cur,hv,_,hg,hnc,hm,hc,ht⟩
  ·cases hv
  ·injection hv with e1 e2 e3
   injection e1 with e1
   injection e1 with e1
   subst e1 e3;exact ⟨cur,hg,hnc,ht⟩
 have hgw:=aj hg;have hvw:=aj hv
 have hread:∀ j v,(xs.flatMap sC)[j]?=some v→w.cell? ⟨g,j,none⟩=some v:=fun j v hj=>by
  rw [← htk,List.getElem?_take] at hj
  split at hj
  ·rw [ac hg];simpa using hj
  ·cases hj
 have htl:((xs.take i).flatMap sC).length=i * 1:=by rw [ax sC 1 hl,List.length_take,Nat.min_eq_left (by omega)]
 have hold:(Builtin.firstCells i0.size i (.slice (some ⟨g,0,none⟩) i c)).run Tryz.prog w.drew=.ok ((xs.take i).flatMap sC).toArray w.drew:=by
  rw [hsz]
  exact run_firstCells_some w.drew 1 i ⟨g,0,none⟩ i c ((xs.take i).flatMap sC) (by rw [htl,Nat.mul_comm]) (fun j v hj=>by
   rw [Addr.add_lit,Nat.zero_add];rw [← cy hl,List.getElem?_take] at hj
   split at hj
   ·exact hread j v hj
   ·cases hj)
 have hik:i+(xs.length+1 - i)=xs.length+1:=by omega
 have hkk:(xs.length:Int)+1 - (i:Int)=((xs.length+1 - i:Nat):Int):=by omega
 have hrz:∀ ty,(Builtin.append_ #[22,3] ty #[.slice (some ⟨g,0,none⟩) i c,.int .i64 ((xs.length:Int)+1 - (i:Int))]).run Tryz.prog w=
   .ok (.slice (some ⟨w.heap.size,0,none⟩) (xs.length+1) (grownCap w (xs.length+1) c 9)) (w.drew.alloc (.cells (((xs.take i).flatMap sC).toArray ++ Builtin.zeroCells z.cells (xs.length+1 - i) ++ Builtin.zeroCells z.cells (grownCap w (xs.length+1) c 9 - (xs.length+1))) 9)):=fun ty=>by
  have h:=Lib.run_append_grow_zeros w 22 3 ty 9 i0 _ .i64 .i64 hu hui hi0 hz0 (some ⟨g,0,none⟩) i c ((xs.take i).flatMap sC) hold (xs.length+1 - i) (by omega) (by omega) (by omega) (by omega) (by rw [hby];omega) (by rw [hby,hik];exact growslice_fits hnr (by omega));rw [hik] at h;rw [hkk];exact h
 have hGn:xs.length+1≤grownCap w (xs.length+1) c 9:=grownCap_ge w _ _ _;have hGm:grownCap w (xs.length+1) c 9≤maxLen:=grownCap_le_maxLen w (xs.length+1) c 9 (by unfold maxLen;omega);generalize grownCap w (xs.length+1) c 9=G at *;obtain ⟨ROW,hROW⟩:∃ ROW:Array Value,ROW=((xs.take i).flatMap sC).toArray ++ Builtin.zeroCells z.cells (xs.length+1 - i) ++ Builtin.zeroCells z.cells (G - (xs.length+1)):=⟨_,rfl⟩;rw [← hROW] at hrz;have hRs:ROW.size=G * 1:=by rw [hROW,Array.size_append,Array.size_append,List.size_toArray,htl,size_zeroCells,size_zeroCells,hzs,← Nat.add_mul,← Nat.add_mul];congr 1;omega
 have hRt:ROW.toList.take (i * 1)=(xs.take i).flatMap sC:=by rw [hROW,Array.toList_append,Array.toList_append,List.append_assoc,List.take_append,htl,List.take_of_length_le (by simp only [htl];omega),Nat.sub_self];simp
 obtain ⟨W1,hW1⟩:∃ W1,W1=w.drew.alloc (.cells ROW 9):=⟨_,rfl⟩;have hh1:W1.heap[w.heap.size]?=some (.cells ROW 9 (0,0)):=by rw [hW1];exact heap_alloc_new w.drew _
 have hg1:W1.heap[g]?=some (.cells cur 9 (0,0)):=by rw [hW1];exact ai (w:=w.drew) hg _
 have hv1:W1.heap[vb]?=some (.cells (sC y).toArray tA (0,0)):=by rw [hW1];exact ai (w:=w.drew) hv _
 rw [← hW1] at hrz;have hyl:(sC y).length=1:=hl y;have hdl:((xs.drop i).flatMap sC).length=(xs.length - i) * 1:=by rw [ax sC 1 hl,List.length_drop]
 have hGz:(xs.length+1) * 1≤G * 1:=Nat.mul_le_mul_right _ hGn
 have hcpA:∀ (W:World),W.heap=W1.heap→∀ ty dc,(Builtin.copy_ #[22,22] ty #[.slice (some ⟨w.heap.size,i,none⟩) (xs.length+1 - i) dc,.slice (some ⟨vb,0,none⟩) 1 vc]).run Tryz.prog W=.ok (goInt ((1:Nat):Int)) (W.setCells w.heap.size (i) (sC y)):=fun W hW ty dc=>by
  have hgW:=hh1;have hvW:=hv1;rw [← hW] at hgW hvW;have:=bE (P:=Tryz.prog) W 22 22 ty 9 w.heap.size (i) (xs.length+1 - i) dc ⟨vb,0,none⟩ 1 vc (sC y) 1 hu hz
   (by rw [hyl];simp only [Nat.min_def];split <;> omega)
   (fun j v hj=>by rw [Addr.add_lit,ac hvW];simpa using hj)
   (fun j hj=>by rw [ac hgW,Array.getElem?_eq_getElem (by omega)];rfl)
   (fun j hj=>ab hgW _)
   (fun v hv=>h1 y v hv)
  rw [show Nat.min 1 (xs.length+1 - i)=1 by simp only [Nat.min_def];split <;> omega] at this;exact this
 have hh2:=bA (sC y) (i) hh1 (by omega);have hne:g≠w.heap.size:=by omega
 have hg2:(W1.setCells w.heap.size (i) (sC y)).heap[g]?=some (.cells cur 9 (0,0)):=(cD (sC y) (i) W1).keep hg1 hne
 have hcpB:∀ (W:World),W.heap=(W1.setCells w.heap.size (i) (sC y)).heap→∀ ty dc sc,(Builtin.copy_ #[22,22] ty #[.slice (some ⟨w.heap.size,i+1,none⟩) (xs.length - i) dc,.slice (some ⟨g,i,none⟩) (xs.length - i) sc]).run Tryz.prog W=.ok (goInt ((xs.length - i:Nat):Int)) (W.setCells w.heap.size (i+1) ((xs.drop i).flatMap sC)):=fun W hW ty dc sc=>by
  have hgW:=hh2;have hvW:=hg2;rw [← hW] at hgW hvW;have:=bE (P:=Tryz.prog) W 22 22 ty 9 w.heap.size (i+1) (xs.length - i) dc ⟨g,i,none⟩ (xs.length - i) sc ((xs.drop i).flatMap sC) 1 hu hz
   (by rw [hdl];congr 1;simp only [Nat.min_def];split <;> omega)
   (fun j v hj=>by
     rw [Addr.add_lit,ac hvW];have:=hread (i * 1+j) v (by rw [← cM hl,List.getElem?_drop] at hj;exact hj);rw [ac hg] at this
     first | exact this | simpa using this)
   (fun j hj=>by rw [ac hgW,Array.getElem?_eq_getElem (by simp only [List.size_toArray,List.length_append,List.length_take,List.length_drop,Array.length_toList,hyl];omega)];rfl)
   (fun j hj=>ab hgW _)
   (fun v hv=>by
     obtain ⟨x,_,hx⟩:=List.mem_flatMap.1 hv;exact h1 x v hx)
  rw [show Nat.min (xs.length - i) (xs.length - i)=xs.length - i by simp only [Nat.min_def];split <;> omega] at this;exact this
 have HOWN:=hid (Own.insert_new (f:=sC) (size:=1) (e:=9) (base:=base) (w:=w.drew) hl (by omega:i≤xs.length) y hbase hGn hGm hRs hRt);have HGR:=hid (show w.grownBy W1 (some g) by rw [hW1];exact gC (bG (b7 w _)) _);have HW1:=hid hW1;clear hW1;have hz2:¬ ((i:Int)=(xs.length:Int)):=by omega
 have hz3:(c:Int)<(xs.length:Int)+1:=by omega
 have hw1:IntKind.i64.wrap ((i:Int)+1)=(i:Int)+1:=by rw [IntKind.wrap_i64];omega
 have hw2:IntKind.i64.wrap ((xs.length:Int)+1)=(xs.length:Int)+1:=by rw [IntKind.wrap_i64];omega
 have hb1:(0:Int)≤(i:Int)+1:=by omega
 have hin:i≤xs.length:=by omega
 have htn:((i:Int)+1).toNat=i+1:=by omega
 have hb3:(i:Int)≤(xs.length:Int)+1:=by omega
 unfold maxLen at hGm;have hGi:¬ (G=i):=by omega
 have hGim:¬ (G=i+1):=by omega
 have hci:¬ (c=i):=by omega
 clear hh1 hh2 hg1 hg2 hv1 hread htk hdl hz h hv hold hROW hRs hRt hkk hik htl hg hzs hsz hby hi0 hz0;go_enter Tryz.func71,Tryz.ntmps71;go_wp2_with (first
  | (at_builtin;refine Lib.wpList_append_run _ rfl _ _ _ _ rfl _ _ rfl rfl _ _ (hrz _) ?_)
  | (at_builtin;refine wpList_copy_runI _ rfl _ _ 22 22 rfl _ _ rfl rfl (hcpA _ rfl _ _) ?_))
 go_region_law_o (refine step_copy_runI rfl _ _ 22 22 rfl _ _ (by simp [Act.eval,Act.put]) (by simp [Act.eval,Act.put]) (hcpB ((W1.setCells w.heap.size (i) (sC y)).drew) rfl 3 (G - (i+1)) (c - i)) ?_);go_wp2;go_ret;have hW1:=HW1.out;subst hW1;refine ⟨_,rfl,?_,?_,.inr rfl⟩
 ·rw [cE]
  first
  | exact Own.drew HOWN.out
  | (have h9:=HOWN.out;simp only [Nat.mul_one] at h9;exact Own.drew h9)
 ·rw [cE];exact bG (aw (aw HGR.out (.inr (Nat.le_refl _)) _) (.inr (Nat.le_refl _)) _)
theorem q7 (xs:List By) (y:By) (base vb vc:Nat) (v:Value) (tA:TypeId) (w:World) (h:Own sC 1 9 base w v xs) (hbase:base≤w.heap.size) (hn:xs.length≤100000) (hv:w.heap[vb]?=some (.cells (sC y).toArray tA (0,0))):
  Calls Tryz.prog 71 #[v,.int .i64 xs.length,.slice (some ⟨vb,0,none⟩) 1 vc] w fun e w'=>
   ∃ v',e=.returned v'∧Own sC 1 9 base w' v' (xs ++ [y])∧w.grownBy w' v.ownBlock∧(v'.ownBlock=v.ownBlock∨v'.ownBlock=some w.heap.size):=by
 have HY:=hid (show Sl sC 1 w (.slice (some ⟨vb,0,none⟩) 1 vc) [y] from Sl.of_row hv (f8).hl (by simp) rfl);have H:=hid h;obtain ⟨A,c,rfl⟩:=Sl.len' (h.sl (f8).hl);clear h hv;go_enter Tryz.func71,Tryz.ntmps71;rcases A with _ | ⟨g,o,sp⟩
 ·have h0:xs.length=0∧c=0:=by
   rcases H.out.2 with ⟨hv,h0⟩ | ⟨g',cap,cur,hv,_⟩
   ·injection hv with e1 e2 e3;exact ⟨e2,e3⟩
   ·cases hv
  obtain ⟨h0,rfl⟩:=h0;have HX:=H;rw [h0] at HX ⊢;have hxs:xs=[]:=List.eq_nil_of_length_eq_zero h0;go_wp2_with (at_builtin;refine hid (am rfl rfl f8 rfl rfl HX.out HY.out (by unfold maxLen;simp;omega) (by simp;omega) hbase ?_) |>.out)
  all_goals
   intro v' w' h1 h2 h3;have H1:=hid h1;have H2:=hid h2;have H3:=hid h3;clear h1 h2 h3;go_wp2_with fail;go_ret;exact ⟨v',rfl,by first | exact H1.out | (rw [hxs];exact H1.out),H2.out,H3.out⟩
 ·obtain ⟨rfl,rfl⟩:o=0∧sp=none:=by
   rcases H.out.2 with ⟨hv,h0⟩ | ⟨g',cap,cur,hv,_⟩
   ·cases hv
   ·injection hv with e1 e2 e3
    injection e1 with e1
    injection e1 with e1 e2 e3
    exact ⟨e2,e3⟩
  go_wp2_with (at_builtin;refine hid (am rfl rfl f8 rfl rfl H.out HY.out (by unfold maxLen;simp;omega) (by simp;omega) hbase ?_) |>.out)
  all_goals
   intro v' w' h1 h2 h3;have H1:=hid h1;have H2:=hid h2;have H3:=hid h3;clear h1 h2 h3;go_wp2_with fail;go_ret;exact ⟨v',rfl,by first | exact H1.out | (rw [hxs];exact H1.out),H2.out,H3.out⟩
theorem m8 (xs:List By) (i:Nat) (y:By) (base vb vc:Nat) (v:Value) (tA:TypeId) (w:World) (h:Own sC 1 9 base w v xs) (hi:i≤xs.length) (hbase:base≤w.heap.size) (hn:xs.length≤100000) (hv:w.heap[vb]?=some (.cells (sC y).toArray tA (0,0))) (hne:v.ownBlock≠some vb):
  Calls Tryz.prog 71 #[v,.int .i64 i,.slice (some ⟨vb,0,none⟩) 1 vc] w fun e w'=>
   ∃ v',e=.returned v'∧Own sC 1 9 base w' v' (xs.insertIdx i y)∧w.grownBy w' v.ownBlock∧(v'.ownBlock=v.ownBlock∨v'.ownBlock=some w.heap.size):=by
 by_cases he:i=xs.length
 ·subst he;rw [fP xs _ y (Nat.le_refl _),List.take_length,List.drop_length];exact q7 xs y base vb vc v tA w h hbase hn hv
 ·have h0:=h;rcases h.2 with ⟨_,h0⟩ | ⟨g,c,cur,rfl,_,hg,hnc,hm,hc,ht⟩
  ·omega
  ·by_cases hr:xs.length+1≤c
   ·refine (oi xs i y base g c vb vc tA w h0 (by omega) hr hv (fun e=>hne (by rw [e];rfl))).mono ?_;rintro e w' ⟨rfl,rfl⟩;exact ⟨_,rfl,(by have:=(Own.drew h0).insert (f8).hl hi hr y;first | exact this | simpa using this),aw (aw (bG (b7 w _)) (.inl rfl) _) (.inl rfl) _,.inl rfl⟩
   ·exact pS xs i y base g c vb vc tA w h0 (by omega) (by omega) hbase hn hv
theorem oj (xs:List Int) (i:Nat) (y:Int) (base g c vb vc:Nat) (tA:TypeId) (w:World) (h:Own iC 1 3 base w (.slice (some ⟨g,0,none⟩) xs.length c) xs) (hi:i<xs.length) (hroom:xs.length+1≤c) (hv:w.heap[vb]?=some (.cells (iC y).toArray tA (0,0))) (hvb:vb≠g):
  Calls Tryz.prog 205 #[.slice (some ⟨g,0,none⟩) xs.length c,.int .i64 i,.slice (some ⟨vb,0,none⟩) 1 vc] w fun e w'=>
   e=.returned (.slice (some ⟨g,0,none⟩) (xs.length+1) c)∧w'=(w.drew.setCells g (i+1) ((xs.drop i).flatMap iC)).setCells g (i) (iC y):=by
 have hz:(Tryz.prog.info? 3).map (·.size)=some 1:=by kernel_rfl
 have hso:∀ w,(Go.sizeOf 3).run Tryz.prog w=.ok 1 w:=fun _=>rfl
 have hu:=Tryz.underlying37;obtain ⟨cur,hg,hcm,hcs,htk⟩:∃ cur:Array Value,w.heap[g]?=some (.cells cur 3 (0,0))∧c≤maxLen∧cur.size=c * 1∧cur.toList.take (xs.length * 1)=xs.flatMap iC:=by
  rcases h.2 with ⟨hv,_⟩ | ⟨g',cap,cur,hv,_,hg,_,hm,hc,ht⟩
  ·cases hv
  ·injection hv with e1 e2 e3
   injection e1 with e1
   injection e1 with e1
   subst e1 e3;exact ⟨cur,hg,hm,hc,ht⟩
 unfold maxLen at hcm;have hcell:∀ j,j<c * 1→(w.cell? ⟨g,j,none⟩).isSome=true:=fun j hj=>by rw [ac hg,Array.getElem?_eq_getElem (by omega)];rfl
 have hread:∀ j v,(xs.flatMap iC)[j]?=some v→w.cell? ⟨g,j,none⟩=some v:=fun j v hj=>by
  rw [← htk,List.getElem?_take] at hj
  split at hj
  ·rw [ac hg];simpa using hj
  ·cases hj
 have hov:∀ lb cb,(callFunc 222 #[.slice (some ⟨vb,0,none⟩) 1 vc,.slice (some ⟨g,i+1,none⟩) lb cb]).run Tryz.prog w=.ok (.value (.bool false)) w:=fun lb cb=>by
  rw [run_callFunc_extern Tryz.func222 (by kernel_rfl) (by kernel_rfl) (by kernel_rfl) (e:=Extern.SlicesOverlaps.overlaps #[37,37] #[4]) (by kernel_rfl),
   Lib.run_overlaps_apart w 37 4 3 hu 1 hso ⟨vb,0,none⟩ ⟨g,i+1,none⟩ 1 vc lb cb hvb tA 3 (iC y).toArray.size cur.size (eG hv) (eG hg) (by rw [hcs];omega) (ab hv _) (ab hv _)]
  rfl
 have hdl:((xs.drop i).flatMap iC).length=(xs.length - i) * 1:=by rw [ax iC 1 (bt).hl,List.length_drop]
 have hcp1:∀ ty dc sc,(Builtin.copy_ #[37,37] ty #[.slice (some ⟨g,i+1,none⟩) (xs.length - i) dc,.slice (some ⟨g,i,none⟩) (xs.length+1 - i) sc]).run Tryz.prog w.drew=.ok (goInt ((xs.length - i:Nat):Int)) (w.drew.setCells g (i+1) ((xs.drop i).flatMap iC)):=fun ty dc sc=>by
  have:=bE (P:=Tryz.prog) w.drew 37 37 ty 3 g (i+1) (xs.length - i) dc ⟨g,i,none⟩ (xs.length+1 - i) sc ((xs.drop i).flatMap iC) 1 hu hz
   (by rw [hdl];congr 1;simp only [Nat.min_def];split <;> omega)
   (fun j v hj=>by rw [Addr.add_lit];exact hread _ v (by rw [← cM (bt).hl,List.getElem?_drop] at hj;first | exact hj | simpa using hj))
   (fun j hj=>hcell _ (by omega)) (fun j hj=>ab hg _)
   (fun v hv=>by
     obtain ⟨x,_,hx⟩:=List.mem_flatMap.1 hv;exact (bt).h1 x v hx)
  rw [show Nat.min (xs.length+1 - i) (xs.length - i)=xs.length - i by simp only [Nat.min_def];split <;> omega] at this;exact this
 obtain ⟨W1,hW1⟩:∃ W1,W1=w.drew.setCells g (i+1) ((xs.drop i).flatMap iC):=⟨_,rfl⟩;have hs1:=bA ((xs.drop i).flatMap iC) (i+1) (w:=w.drew) hg (by omega);rw [← hW1] at hs1;have hv1:W1.heap[vb]?=some (.cells (iC y).toArray tA (0,0)):=by rw [hW1];exact ((Ch.refl (fun k=>k=g) w).drew.trans (cD _ _ _)).keep hv hvb
 have hyl:(iC y).length=1:=(bt).hl y
 have hcp2:∀ (W:World),W.heap=W1.heap→∀ ty dc,(Builtin.copy_ #[37,37] ty #[.slice (some ⟨g,i,none⟩) (xs.length+1 - i) dc,.slice (some ⟨vb,0,none⟩) 1 vc]).run Tryz.prog W=.ok (goInt ((1:Nat):Int)) (W.setCells g (i) (iC y)):=fun W hW ty dc=>by
  have hgW:=hs1;have hvW:=hv1;rw [← hW] at hgW hvW;have:=bE (P:=Tryz.prog) W 37 37 ty 3 g (i) (xs.length+1 - i) dc ⟨vb,0,none⟩ 1 vc (iC y) 1 hu hz
   (by rw [hyl];simp only [Nat.min_def];split <;> omega)
   (fun j v hj=>by rw [Addr.add_lit,ac hvW];simpa using hj)
   (fun j hj=>by rw [ac hgW,Array.getElem?_eq_getElem (by simp only [List.size_toArray,List.length_append,List.length_take,List.length_drop,Array.length_toList,hdl];omega)];rfl)
   (fun j hj=>ab hgW _)
   (fun v hv=>(bt).h1 y v hv)
  rw [show Nat.min 1 (xs.length+1 - i)=1 by simp only [Nat.min_def];split <;> omega] at this;exact this
 rw [← hW1] at hcp1 ⊢;have hzi:(1:Int)≠0:=by decide
 have mixed:Tryz.prog.follows .mixedOrders=true:=by kernel_rfl
 have hz2:¬ ((i:Int)=(xs.length:Int)):=by omega
 have hw1:IntKind.i64.wrap ((i:Int)+1)=(i:Int)+1:=by rw [IntKind.wrap_i64];omega
 have hw2:IntKind.i64.wrap ((xs.length:Int)+1)=(xs.length:Int)+1:=by rw [IntKind.wrap_i64];omega
 have hb1:(0:Int)≤(i:Int)+1:=by omega
 have hin:i≤xs.length:=by omega
 have htn:((i:Int)+1).toNat=i+1:=by omega
 have htn2:((xs.length:Int)+1).toNat=xs.length+1:=by omega
 have hb2:¬ (c=i+1):=by omega
 have hb3:(i:Int)≤(xs.length:Int)+1:=by omega
 have hb4:¬ (c=i):=by omega
 clear hs1 hv1 hcell hread htk hcs hg hdl hz hso h hv;go_enter Tryz.func205,Tryz.ntmps205;go_wp2_with (simp only [hov]);go_region_law_o (refine step_copy_runI rfl _ _ 37 37 rfl _ _ (by simp [Act.eval,Act.put]) (by simp [Act.eval,Act.put]) (hcp1 _ _ _) ?_);go_wp2_with (at_builtin;refine wpList_copy_runI _ rfl _ _ 37 37 rfl _ _ rfl rfl (hcp2 _ rfl _ _) ?_);go_ret
 first | exact ⟨rfl,rfl⟩ | exact ⟨rfl,by rw [hW1]⟩
theorem pT (xs:List Int) (i:Nat) (y:Int) (base g c vb vc:Nat) (tA:TypeId) (w:World) (h:Own iC 1 3 base w (.slice (some ⟨g,0,none⟩) xs.length c) xs) (hi:i<xs.length) (hnr:c<xs.length+1) (hbase:base≤w.heap.size) (hn:xs.length≤100000) (hv:w.heap[vb]?=some (.cells (iC y).toArray tA (0,0))):
  Calls Tryz.prog 205 #[.slice (some ⟨g,0,none⟩) xs.length c,.int .i64 i,.slice (some ⟨vb,0,none⟩) 1 vc] w fun e w'=>
   ∃ v',e=.returned v'∧Own iC 1 3 base w' v' (xs.insertIdx i y)∧w.grownBy w' (some g)∧(v'.ownBlock=some g∨v'.ownBlock=some w.heap.size):=by
 have mixed:Tryz.prog.follows .mixedOrders=true:=by kernel_rfl
 have hz:(Tryz.prog.info? 3).map (·.size)=some 1:=by kernel_rfl
 have hu:=Tryz.underlying37;have hui:=Tryz.underlying3;obtain ⟨_,⟨i0,z,hi0,hz0,hsz,hby,hzs⟩,_,hl,h1⟩:=bt;obtain ⟨cur,hg,hnc,htk⟩:∃ cur:Array Value,w.heap[g]?=some (.cells cur 3 (0,0))∧xs.length≤c∧cur.toList.take (xs.length * 1)=xs.flatMap iC:=by
  rcases h.2 with ⟨hv,_⟩ | ⟨g',cap,cur,hv,_,hg,hnc,hm,hc,ht⟩
  ·cases hv
  ·injection hv with e1 e2 e3
   injection e1 with e1
   injection e1 with e1
   subst e1 e3;exact ⟨cur,hg,hnc,ht⟩
 have hgw:=aj hg;have hvw:=aj hv
 have hread:∀ j v,(xs.flatMap iC)[j]?=some v→w.cell? ⟨g,j,none⟩=some v:=fun j v hj=>by
  rw [← htk,List.getElem?_take] at hj
  split at hj
  ·rw [ac hg];simpa using hj
  ·cases hj
 have htl:((xs.take i).flatMap iC).length=i * 1:=by rw [ax iC 1 hl,List.length_take,Nat.min_eq_left (by omega)]
 have hold:(Builtin.firstCells i0.size i (.slice (some ⟨g,0,none⟩) i c)).run Tryz.prog w.drew=.ok ((xs.take i).flatMap iC).toArray w.drew:=by
  rw [hsz]
  exact run_firstCells_some w.drew 1 i ⟨g,0,none⟩ i c ((xs.take i).flatMap iC) (by rw [htl,Nat.mul_comm]) (fun j v hj=>by
   rw [Addr.add_lit,Nat.zero_add];rw [← cy hl,List.getElem?_take] at hj
   split at hj
   ·exact hread j v hj
   ·cases hj)
 have hik:i+(xs.length+1 - i)=xs.length+1:=by omega
 have hkk:(xs.length:Int)+1 - (i:Int)=((xs.length+1 - i:Nat):Int):=by omega
 have hrz:∀ ty,(Builtin.append_ #[37,3] ty #[.slice (some ⟨g,0,none⟩) i c,.int .i64 ((xs.length:Int)+1 - (i:Int))]).run Tryz.prog w=
   .ok (.slice (some ⟨w.heap.size,0,none⟩) (xs.length+1) (grownCap w (xs.length+1) c 3)) (w.drew.alloc (.cells (((xs.take i).flatMap iC).toArray ++ Builtin.zeroCells z.cells (xs.length+1 - i) ++ Builtin.zeroCells z.cells (grownCap w (xs.length+1) c 3 - (xs.length+1))) 3)):=fun ty=>by
  have h:=Lib.run_append_grow_zeros w 37 3 ty 3 i0 _ .i64 .i64 hu hui hi0 hz0 (some ⟨g,0,none⟩) i c ((xs.take i).flatMap iC) hold (xs.length+1 - i) (by omega) (by omega) (by omega) (by omega) (by rw [hby];omega) (by rw [hby,hik];exact growslice_fits hnr (by omega));rw [hik] at h;rw [hkk];exact h
 have hGn:xs.length+1≤grownCap w (xs.length+1) c 3:=grownCap_ge w _ _ _;have hGm:grownCap w (xs.length+1) c 3≤maxLen:=grownCap_le_maxLen w (xs.length+1) c 3 (by unfold maxLen;omega);generalize grownCap w (xs.length+1) c 3=G at *;obtain ⟨ROW,hROW⟩:∃ ROW:Array Value,ROW=((xs.take i).flatMap iC).toArray ++ Builtin.zeroCells z.cells (xs.length+1 - i) ++ Builtin.zeroCells z.cells (G - (xs.length+1)):=⟨_,rfl⟩;rw [← hROW] at hrz;have hRs:ROW.size=G * 1:=by rw [hROW,Array.size_append,Array.size_append,List.size_toArray,htl,size_zeroCells,size_zeroCells,hzs,← Nat.add_mul,← Nat.add_mul];congr 1;omega
 have hRt:ROW.toList.take (i * 1)=(xs.take i).flatMap iC:=by rw [hROW,Array.toList_append,Array.toList_append,List.append_assoc,List.take_append,htl,List.take_of_length_le (by simp only [htl];omega),Nat.sub_self];simp
 obtain ⟨W1,hW1⟩:∃ W1,W1=w.drew.alloc (.cells ROW 3):=⟨_,rfl⟩;have hh1:W1.heap[w.heap.size]?=some (.cells ROW 3 (0,0)):=by rw [hW1];exact heap_alloc_new w.drew _
 have hg1:W1.heap[g]?=some (.cells cur 3 (0,0)):=by rw [hW1];exact ai (w:=w.drew) hg _
 have hv1:W1.heap[vb]?=some (.cells (iC y).toArray tA (0,0)):=by rw [hW1];exact ai (w:=w.drew) hv _
 rw [← hW1] at hrz;have hyl:(iC y).length=1:=hl y;have hdl:((xs.drop i).flatMap iC).length=(xs.length - i) * 1:=by rw [ax iC 1 hl,List.length_drop]
 have hGz:(xs.length+1) * 1≤G * 1:=Nat.mul_le_mul_right _ hGn
 have hcpA:∀ (W:World),W.heap=W1.heap→∀ ty dc,(Builtin.copy_ #[37,37] ty #[.slice (some ⟨w.heap.size,i,none⟩) (xs.length+1 - i) dc,.slice (some ⟨vb,0,none⟩) 1 vc]).run Tryz.prog W=.ok (goInt ((1:Nat):Int)) (W.setCells w.heap.size (i) (iC y)):=fun W hW ty dc=>by
  have hgW:=hh1;have hvW:=hv1;rw [← hW] at hgW hvW;have:=bE (P:=Tryz.prog) W 37 37 ty 3 w.heap.size (i) (xs.length+1 - i) dc ⟨vb,0,none⟩ 1 vc (iC y) 1 hu hz
   (by rw [hyl];simp only [Nat.min_def];split <;> omega)
   (fun j v hj=>by rw [Addr.add_lit,ac hvW];simpa using hj)
   (fun j hj=>by rw [ac hgW,Array.getElem?_eq_getElem (by omega)];rfl)
   (fun j hj=>ab hgW _)
   (fun v hv=>h1 y v hv)
  rw [show Nat.min 1 (xs.length+1 - i)=1 by simp only [Nat.min_def];split <;> omega] at this;exact this
 have hh2:=bA (iC y) (i) hh1 (by omega);have hne:g≠w.heap.size:=by omega
 have hg2:(W1.setCells w.heap.size (i) (iC y)).heap[g]?=some (.cells cur 3 (0,0)):=(cD (iC y) (i) W1).keep hg1 hne
 have hcpB:∀ (W:World),W.heap=(W1.setCells w.heap.size (i) (iC y)).heap→∀ ty dc sc,(Builtin.copy_ #[37,37] ty #[.slice (some ⟨w.heap.size,i+1,none⟩) (xs.length - i) dc,.slice (some ⟨g,i,none⟩) (xs.length - i) sc]).run Tryz.prog W=.ok (goInt ((xs.length - i:Nat):Int)) (W.setCells w.heap.size (i+1) ((xs.drop i).flatMap iC)):=fun W hW ty dc sc=>by
  have hgW:=hh2;have hvW:=hg2;rw [← hW] at hgW hvW;have:=bE (P:=Tryz.prog) W 37 37 ty 3 w.heap.size (i+1) (xs.length - i) dc ⟨g,i,none⟩ (xs.length - i) sc ((xs.drop i).flatMap iC) 1 hu hz
   (by rw [hdl];congr 1;simp only [Nat.min_def];split <;> omega)
   (fun j v hj=>by
     rw [Addr.add_lit,ac hvW];have:=hread (i * 1+j) v (by rw [← cM hl,List.getElem?_drop] at hj;exact hj);rw [ac hg] at this
     first | exact this | simpa using this)
   (fun j hj=>by rw [ac hgW,Array.getElem?_eq_getElem (by simp only [List.size_toArray,List.length_append,List.length_take,List.length_drop,Array.length_toList,hyl];omega)];rfl)
   (fun j hj=>ab hgW _)
   (fun v hv=>by
     obtain ⟨x,_,hx⟩:=List.mem_flatMap.1 hv;exact h1 x v hx)
  rw [show Nat.min (xs.length - i) (xs.length - i)=xs.length - i by simp only [Nat.min_def];split <;> omega] at this;exact this
 have HOWN:=hid (Own.insert_new (f:=iC) (size:=1) (e:=3) (base:=base) (w:=w.drew) hl (by omega:i≤xs.length) y hbase hGn hGm hRs hRt);have HGR:=hid (show w.grownBy W1 (some g) by rw [hW1];exact gC (bG (b7 w _)) _);have HW1:=hid hW1;clear hW1;have hz2:¬ ((i:Int)=(xs.length:Int)):=by omega
 have hz3:(c:Int)<(xs.length:Int)+1:=by omega
 have hw1:IntKind.i64.wrap ((i:Int)+1)=(i:Int)+1:=by rw [IntKind.wrap_i64];omega
 have hw2:IntKind.i64.wrap ((xs.length:Int)+1)=(xs.length:Int)+1:=by rw [IntKind.wrap_i64];omega
 have hb1:(0:Int)≤(i:Int)+1:=by omega
 have hin:i≤xs.length:=by omega
 have htn:((i:Int)+1).toNat=i+1:=by omega
 have hb3:(i:Int)≤(xs.length:Int)+1:=by omega
 unfold maxLen at hGm;have hGi:¬ (G=i):=by omega
 have hGim:¬ (G=i+1):=by omega
 have hci:¬ (c=i):=by omega
 clear hh1 hh2 hg1 hg2 hv1 hread htk hdl hz h hv hold hROW hRs hRt hkk hik htl hg hzs hsz hby hi0 hz0;go_enter Tryz.func205,Tryz.ntmps205;go_wp2_with (first
  | (at_builtin;refine Lib.wpList_append_run _ rfl _ _ _ _ rfl _ _ rfl rfl _ _ (hrz _) ?_)
  | (at_builtin;refine wpList_copy_runI _ rfl _ _ 37 37 rfl _ _ rfl rfl (hcpA _ rfl _ _) ?_))
 go_region_law_o (refine step_copy_runI rfl _ _ 37 37 rfl _ _ (by simp [Act.eval,Act.put]) (by simp [Act.eval,Act.put]) (hcpB ((W1.setCells w.heap.size (i) (iC y)).drew) rfl 3 (G - (i+1)) (c - i)) ?_);go_wp2;go_ret;have hW1:=HW1.out;subst hW1;refine ⟨_,rfl,?_,?_,.inr rfl⟩
 ·rw [cE]
  first
  | exact Own.drew HOWN.out
  | (have h9:=HOWN.out;simp only [Nat.mul_one] at h9;exact Own.drew h9)
 ·rw [cE];exact bG (aw (aw HGR.out (.inr (Nat.le_refl _)) _) (.inr (Nat.le_refl _)) _)
theorem q8 (xs:List Int) (y:Int) (base vb vc:Nat) (v:Value) (tA:TypeId) (w:World) (h:Own iC 1 3 base w v xs) (hbase:base≤w.heap.size) (hn:xs.length≤100000) (hv:w.heap[vb]?=some (.cells (iC y).toArray tA (0,0))):
  Calls Tryz.prog 205 #[v,.int .i64 xs.length,.slice (some ⟨vb,0,none⟩) 1 vc] w fun e w'=>
   ∃ v',e=.returned v'∧Own iC 1 3 base w' v' (xs ++ [y])∧w.grownBy w' v.ownBlock∧(v'.ownBlock=v.ownBlock∨v'.ownBlock=some w.heap.size):=by
 have HY:=hid (show Sl iC 1 w (.slice (some ⟨vb,0,none⟩) 1 vc) [y] from Sl.of_row hv (bt).hl (by simp) rfl);have H:=hid h;obtain ⟨A,c,rfl⟩:=Sl.len' (h.sl (bt).hl);clear h hv;go_enter Tryz.func205,Tryz.ntmps205;rcases A with _ | ⟨g,o,sp⟩
 ·have h0:xs.length=0∧c=0:=by
   rcases H.out.2 with ⟨hv,h0⟩ | ⟨g',cap,cur,hv,_⟩
   ·injection hv with e1 e2 e3;exact ⟨e2,e3⟩
   ·cases hv
  obtain ⟨h0,rfl⟩:=h0;have HX:=H;rw [h0] at HX ⊢;have hxs:xs=[]:=List.eq_nil_of_length_eq_zero h0;go_wp2_with (at_builtin;refine hid (am rfl rfl bt rfl rfl HX.out HY.out (by unfold maxLen;simp;omega) (by simp;omega) hbase ?_) |>.out)
  all_goals
   intro v' w' h1 h2 h3;have H1:=hid h1;have H2:=hid h2;have H3:=hid h3;clear h1 h2 h3;go_wp2_with fail;go_ret;exact ⟨v',rfl,by first | exact H1.out | (rw [hxs];exact H1.out),H2.out,H3.out⟩
 ·obtain ⟨rfl,rfl⟩:o=0∧sp=none:=by
   rcases H.out.2 with ⟨hv,h0⟩ | ⟨g',cap,cur,hv,_⟩
   ·cases hv
   ·injection hv with e1 e2 e3
    injection e1 with e1
    injection e1 with e1 e2 e3
    exact ⟨e2,e3⟩
  go_wp2_with (at_builtin;refine hid (am rfl rfl bt rfl rfl H.out HY.out (by unfold maxLen;simp;omega) (by simp;omega) hbase ?_) |>.out)
  all_goals
   intro v' w' h1 h2 h3;have H1:=hid h1;have H2:=hid h2;have H3:=hid h3;clear h1 h2 h3;go_wp2_with fail;go_ret;exact ⟨v',rfl,by first | exact H1.out | (rw [hxs];exact H1.out),H2.out,H3.out⟩
theorem q9 (xs:List Int) (i:Nat) (y:Int) (base vb vc:Nat) (v:Value) (tA:TypeId) (w:World) (h:Own iC 1 3 base w v xs) (hi:i≤xs.length) (hbase:base≤w.heap.size) (hn:xs.length≤100000) (hv:w.heap[vb]?=some (.cells (iC y).toArray tA (0,0))) (hne:v.ownBlock≠some vb):
  Calls Tryz.prog 205 #[v,.int .i64 i,.slice (some ⟨vb,0,none⟩) 1 vc] w fun e w'=>
   ∃ v',e=.returned v'∧Own iC 1 3 base w' v' (xs.insertIdx i y)∧w.grownBy w' v.ownBlock∧(v'.ownBlock=v.ownBlock∨v'.ownBlock=some w.heap.size):=by
 by_cases he:i=xs.length
 ·subst he;rw [fP xs _ y (Nat.le_refl _),List.take_length,List.drop_length];exact q8 xs y base vb vc v tA w h hbase hn hv
 ·have h0:=h;rcases h.2 with ⟨_,h0⟩ | ⟨g,c,cur,rfl,_,hg,hnc,hm,hc,ht⟩
  ·omega
  ·by_cases hr:xs.length+1≤c
   ·refine (oj xs i y base g c vb vc tA w h0 (by omega) hr hv (fun e=>hne (by rw [e];rfl))).mono ?_;rintro e w' ⟨rfl,rfl⟩;exact ⟨_,rfl,(by have:=(Own.drew h0).insert (bt).hl hi hr y;first | exact this | simpa using this),aw (aw (bG (b7 w _)) (.inl rfl) _) (.inl rfl) _,.inl rfl⟩
   ·exact pT xs i y base g c vb vc tA w h0 (by omega) (by omega) hbase hn hv
theorem ol (xs:List Ce) (i:Nat) (y:Ce) (base g c vb vc:Nat) (tA:TypeId) (w:World) (h:Own cC 3 119 base w (.slice (some ⟨g,0,none⟩) xs.length c) xs) (hi:i<xs.length) (hroom:xs.length+1≤c) (hv:w.heap[vb]?=some (.cells (cC y).toArray tA (0,0))) (hvb:vb≠g):
  Calls Tryz.prog 72 #[.slice (some ⟨g,0,none⟩) xs.length c,.int .i64 i,.slice (some ⟨vb,0,none⟩) 1 vc] w fun e w'=>
   e=.returned (.slice (some ⟨g,0,none⟩) (xs.length+1) c)∧w'=(w.drew.setCells g ((i+1) * 3) ((xs.drop i).flatMap cC)).setCells g (i * 3) (cC y):=by
 have hz:(Tryz.prog.info? 119).map (·.size)=some 3:=by kernel_rfl
 have hso:∀ w,(Go.sizeOf 119).run Tryz.prog w=.ok 3 w:=fun _=>rfl
 have hu:=Tryz.underlying108;obtain ⟨cur,hg,hcm,hcs,htk⟩:∃ cur:Array Value,w.heap[g]?=some (.cells cur 119 (0,0))∧c≤maxLen∧cur.size=c * 3∧cur.toList.take (xs.length * 3)=xs.flatMap cC:=by
  rcases h.2 with ⟨hv,_⟩ | ⟨g',cap,cur,hv,_,hg,_,hm,hc,ht⟩
  ·cases hv
  ·injection hv with e1 e2 e3
   injection e1 with e1
   injection e1 with e1
   subst e1 e3;exact ⟨cur,hg,hm,hc,ht⟩
 unfold maxLen at hcm;have hcell:∀ j,j<c * 3→(w.cell? ⟨g,j,none⟩).isSome=true:=fun j hj=>by rw [ac hg,Array.getElem?_eq_getElem (by omega)];rfl
 have hread:∀ j v,(xs.flatMap cC)[j]?=some v→w.cell? ⟨g,j,none⟩=some v:=fun j v hj=>by
  rw [← htk,List.getElem?_take] at hj
  split at hj
  ·rw [ac hg];simpa using hj
  ·cases hj
 have hov:∀ lb cb,(callFunc 127 #[.slice (some ⟨vb,0,none⟩) 1 vc,.slice (some ⟨g,(i+1) * 3,none⟩) lb cb]).run Tryz.prog w=.ok (.value (.bool false)) w:=fun lb cb=>by
  rw [run_callFunc_extern Tryz.func127 (by kernel_rfl) (by kernel_rfl) (by kernel_rfl) (e:=Extern.SlicesOverlaps.overlaps #[108,108] #[4]) (by kernel_rfl),
   Lib.run_overlaps_apart w 108 4 119 hu 3 hso ⟨vb,0,none⟩ ⟨g,(i+1) * 3,none⟩ 1 vc lb cb hvb tA 119 (cC y).toArray.size cur.size (eG hv) (eG hg) (by rw [hcs];omega) (ab hv _) (ab hv _)]
  rfl
 have hdl:((xs.drop i).flatMap cC).length=(xs.length - i) * 3:=by rw [ax cC 3 (gE).hl,List.length_drop]
 have hcp1:∀ ty dc sc,(Builtin.copy_ #[108,108] ty #[.slice (some ⟨g,(i+1) * 3,none⟩) (xs.length - i) dc,.slice (some ⟨g,i * 3,none⟩) (xs.length+1 - i) sc]).run Tryz.prog w.drew=.ok (goInt ((xs.length - i:Nat):Int)) (w.drew.setCells g ((i+1) * 3) ((xs.drop i).flatMap cC)):=fun ty dc sc=>by
  have:=bE (P:=Tryz.prog) w.drew 108 108 ty 119 g ((i+1) * 3) (xs.length - i) dc ⟨g,i * 3,none⟩ (xs.length+1 - i) sc ((xs.drop i).flatMap cC) 3 hu hz
   (by rw [hdl];congr 1;simp only [Nat.min_def];split <;> omega)
   (fun j v hj=>by rw [Addr.add_lit];exact hread _ v (by rw [← cM (gE).hl,List.getElem?_drop] at hj;first | exact hj | simpa using hj))
   (fun j hj=>hcell _ (by omega)) (fun j hj=>ab hg _)
   (fun v hv=>by
     obtain ⟨x,_,hx⟩:=List.mem_flatMap.1 hv;exact (gE).h1 x v hx)
  rw [show Nat.min (xs.length+1 - i) (xs.length - i)=xs.length - i by simp only [Nat.min_def];split <;> omega] at this;exact this
 obtain ⟨W1,hW1⟩:∃ W1,W1=w.drew.setCells g ((i+1) * 3) ((xs.drop i).flatMap cC):=⟨_,rfl⟩;have hs1:=bA ((xs.drop i).flatMap cC) ((i+1) * 3) (w:=w.drew) hg (by omega);rw [← hW1] at hs1;have hv1:W1.heap[vb]?=some (.cells (cC y).toArray tA (0,0)):=by rw [hW1];exact ((Ch.refl (fun k=>k=g) w).drew.trans (cD _ _ _)).keep hv hvb
 have hyl:(cC y).length=3:=(gE).hl y
 have hcp2:∀ (W:World),W.heap=W1.heap→∀ ty dc,(Builtin.copy_ #[108,108] ty #[.slice (some ⟨g,i * 3,none⟩) (xs.length+1 - i) dc,.slice (some ⟨vb,0,none⟩) 1 vc]).run Tryz.prog W=.ok (goInt ((1:Nat):Int)) (W.setCells g (i * 3) (cC y)):=fun W hW ty dc=>by
  have hgW:=hs1;have hvW:=hv1;rw [← hW] at hgW hvW;have:=bE (P:=Tryz.prog) W 108 108 ty 119 g (i * 3) (xs.length+1 - i) dc ⟨vb,0,none⟩ 1 vc (cC y) 3 hu hz
   (by rw [hyl];simp only [Nat.min_def];split <;> omega)
   (fun j v hj=>by rw [Addr.add_lit,ac hvW];simpa using hj)
   (fun j hj=>by rw [ac hgW,Array.getElem?_eq_getElem (by simp only [List.size_toArray,List.length_append,List.length_take,List.length_drop,Array.length_toList,hdl];omega)];rfl)
   (fun j hj=>ab hgW _)
   (fun v hv=>(gE).h1 y v hv)
  rw [show Nat.min 1 (xs.length+1 - i)=1 by simp only [Nat.min_def];split <;> omega] at this;exact this
 rw [← hW1] at hcp1 ⊢;have hzi:(1:Int)≠0:=by decide
 have mixed:Tryz.prog.follows .mixedOrders=true:=by kernel_rfl
 have hz2:¬ ((i:Int)=(xs.length:Int)):=by omega
 have hw1:IntKind.i64.wrap ((i:Int)+1)=(i:Int)+1:=by rw [IntKind.wrap_i64];omega
 have hw2:IntKind.i64.wrap ((xs.length:Int)+1)=(xs.length:Int)+1:=by rw [IntKind.wrap_i64];omega
 have hb1:(0:Int)≤(i:Int)+1:=by omega
 have hin:i≤xs.length:=by omega
 have htn:((i:Int)+1).toNat=i+1:=by omega
 have htn2:((xs.length:Int)+1).toNat=xs.length+1:=by omega
 have hb2:¬ (c=i+1):=by omega
 have hb3:(i:Int)≤(xs.length:Int)+1:=by omega
 have hb4:¬ (c=i):=by omega
 clear hs1 hv1 hcell hread htk hcs hg hdl hz hso h hv;go_enter Tryz.func72,Tryz.ntmps72;go_wp2_with (simp only [hov]);go_region_law_o (refine step_copy_runI rfl _ _ 108 108 rfl _ _ (by simp [Act.eval,Act.put]) (by simp [Act.eval,Act.put]) (hcp1 _ _ _) ?_);go_wp2_with (at_builtin;refine wpList_copy_runI _ rfl _ _ 108 108 rfl _ _ rfl rfl (hcp2 _ rfl _ _) ?_);go_ret
 first | exact ⟨rfl,rfl⟩ | exact ⟨rfl,by rw [hW1]⟩
theorem pU (xs:List Ce) (i:Nat) (y:Ce) (base g c vb vc:Nat) (tA:TypeId) (w:World) (h:Own cC 3 119 base w (.slice (some ⟨g,0,none⟩) xs.length c) xs) (hi:i<xs.length) (hnr:c<xs.length+1) (hbase:base≤w.heap.size) (hn:xs.length≤100000) (hv:w.heap[vb]?=some (.cells (cC y).toArray tA (0,0))):
  Calls Tryz.prog 72 #[.slice (some ⟨g,0,none⟩) xs.length c,.int .i64 i,.slice (some ⟨vb,0,none⟩) 1 vc] w fun e w'=>
   ∃ v',e=.returned v'∧Own cC 3 119 base w' v' (xs.insertIdx i y)∧w.grownBy w' (some g)∧(v'.ownBlock=some g∨v'.ownBlock=some w.heap.size):=by
 have mixed:Tryz.prog.follows .mixedOrders=true:=by kernel_rfl
 have hz:(Tryz.prog.info? 119).map (·.size)=some 3:=by kernel_rfl
 have hu:=Tryz.underlying108;have hui:=Tryz.underlying3;obtain ⟨_,⟨i0,z,hi0,hz0,hsz,hby,hzs⟩,_,hl,h1⟩:=gE;obtain ⟨cur,hg,hnc,htk⟩:∃ cur:Array Value,w.heap[g]?=some (.cells cur 119 (0,0))∧xs.length≤c∧cur.toList.take (xs.length * 3)=xs.flatMap cC:=by
  rcases h.2 with ⟨hv,_⟩ | ⟨g',cap,cur,hv,_,hg,hnc,hm,hc,ht⟩
  ·cases hv
  ·injection hv with e1 e2 e3
   injection e1 with e1
   injection e1 with e1
   subst e1 e3;exact ⟨cur,hg,hnc,ht⟩
 have hgw:=aj hg;have hvw:=aj hv
 have hread:∀ j v,(xs.flatMap cC)[j]?=some v→w.cell? ⟨g,j,none⟩=some v:=fun j v hj=>by
  rw [← htk,List.getElem?_take] at hj
  split at hj
  ·rw [ac hg];simpa using hj
  ·cases hj
 have htl:((xs.take i).flatMap cC).length=i * 3:=by rw [ax cC 3 hl,List.length_take,Nat.min_eq_left (by omega)]
 have hold:(Builtin.firstCells i0.size i (.slice (some ⟨g,0,none⟩) i c)).run Tryz.prog w.drew=.ok ((xs.take i).flatMap cC).toArray w.drew:=by
  rw [hsz]
  exact run_firstCells_some w.drew 3 i ⟨g,0,none⟩ i c ((xs.take i).flatMap cC) (by rw [htl,Nat.mul_comm]) (fun j v hj=>by
   rw [Addr.add_lit,Nat.zero_add];rw [← cy hl,List.getElem?_take] at hj
   split at hj
   ·exact hread j v hj
   ·cases hj)
 have hik:i+(xs.length+1 - i)=xs.length+1:=by omega
 have hkk:(xs.length:Int)+1 - (i:Int)=((xs.length+1 - i:Nat):Int):=by omega
 have hrz:∀ ty,(Builtin.append_ #[108,3] ty #[.slice (some ⟨g,0,none⟩) i c,.int .i64 ((xs.length:Int)+1 - (i:Int))]).run Tryz.prog w=
   .ok (.slice (some ⟨w.heap.size,0,none⟩) (xs.length+1) (grownCap w (xs.length+1) c 119)) (w.drew.alloc (.cells (((xs.take i).flatMap cC).toArray ++ Builtin.zeroCells z.cells (xs.length+1 - i) ++ Builtin.zeroCells z.cells (grownCap w (xs.length+1) c 119 - (xs.length+1))) 119)):=fun ty=>by
  have h:=Lib.run_append_grow_zeros w 108 3 ty 119 i0 _ .i64 .i64 hu hui hi0 hz0 (some ⟨g,0,none⟩) i c ((xs.take i).flatMap cC) hold (xs.length+1 - i) (by omega) (by omega) (by omega) (by omega) (by rw [hby];omega) (by rw [hby,hik];exact growslice_fits hnr (by omega));rw [hik] at h;rw [hkk];exact h
 have hGn:xs.length+1≤grownCap w (xs.length+1) c 119:=grownCap_ge w _ _ _;have hGm:grownCap w (xs.length+1) c 119≤maxLen:=grownCap_le_maxLen w (xs.length+1) c 119 (by unfold maxLen;omega);generalize grownCap w (xs.length+1) c 119=G at *;obtain ⟨ROW,hROW⟩:∃ ROW:Array Value,ROW=((xs.take i).flatMap cC).toArray ++ Builtin.zeroCells z.cells (xs.length+1 - i) ++ Builtin.zeroCells z.cells (G - (xs.length+1)):=⟨_,rfl⟩;rw [← hROW] at hrz;have hRs:ROW.size=G * 3:=by rw [hROW,Array.size_append,Array.size_append,List.size_toArray,htl,size_zeroCells,size_zeroCells,hzs,← Nat.add_mul,← Nat.add_mul];congr 1;omega
 have hRt:ROW.toList.take (i * 3)=(xs.take i).flatMap cC:=by rw [hROW,Array.toList_append,Array.toList_append,List.append_assoc,List.take_append,htl,List.take_of_length_le (by simp only [htl];omega),Nat.sub_self];simp
 obtain ⟨W1,hW1⟩:∃ W1,W1=w.drew.alloc (.cells ROW 119):=⟨_,rfl⟩;have hh1:W1.heap[w.heap.size]?=some (.cells ROW 119 (0,0)):=by rw [hW1];exact heap_alloc_new w.drew _
 have hg1:W1.heap[g]?=some (.cells cur 119 (0,0)):=by rw [hW1];exact ai (w:=w.drew) hg _
 have hv1:W1.heap[vb]?=some (.cells (cC y).toArray tA (0,0)):=by rw [hW1];exact ai (w:=w.drew) hv _
 rw [← hW1] at hrz;have hyl:(cC y).length=3:=hl y;have hdl:((xs.drop i).flatMap cC).length=(xs.length - i) * 3:=by rw [ax cC 3 hl,List.length_drop]
 have hGz:(xs.length+1) * 3≤G * 3:=Nat.mul_le_mul_right _ hGn
 have hcpA:∀ (W:World),W.heap=W1.heap→∀ ty dc,(Builtin.copy_ #[108,108] ty #[.slice (some ⟨w.heap.size,i * 3,none⟩) (xs.length+1 - i) dc,.slice (some ⟨vb,0,none⟩) 1 vc]).run Tryz.prog W=.ok (goInt ((1:Nat):Int)) (W.setCells w.heap.size (i * 3) (cC y)):=fun W hW ty dc=>by
  have hgW:=hh1;have hvW:=hv1;rw [← hW] at hgW hvW;have:=bE (P:=Tryz.prog) W 108 108 ty 119 w.heap.size (i * 3) (xs.length+1 - i) dc ⟨vb,0,none⟩ 1 vc (cC y) 3 hu hz
   (by rw [hyl];simp only [Nat.min_def];split <;> omega)
   (fun j v hj=>by rw [Addr.add_lit,ac hvW];simpa using hj)
   (fun j hj=>by rw [ac hgW,Array.getElem?_eq_getElem (by omega)];rfl)
   (fun j hj=>ab hgW _)
   (fun v hv=>h1 y v hv)
  rw [show Nat.min 1 (xs.length+1 - i)=1 by simp only [Nat.min_def];split <;> omega] at this;exact this
 have hh2:=bA (cC y) (i * 3) hh1 (by omega);have hne:g≠w.heap.size:=by omega
 have hg2:(W1.setCells w.heap.size (i * 3) (cC y)).heap[g]?=some (.cells cur 119 (0,0)):=(cD (cC y) (i * 3) W1).keep hg1 hne
 have hcpB:∀ (W:World),W.heap=(W1.setCells w.heap.size (i * 3) (cC y)).heap→∀ ty dc sc,(Builtin.copy_ #[108,108] ty #[.slice (some ⟨w.heap.size,(i+1) * 3,none⟩) (xs.length - i) dc,.slice (some ⟨g,i * 3,none⟩) (xs.length - i) sc]).run Tryz.prog W=.ok (goInt ((xs.length - i:Nat):Int)) (W.setCells w.heap.size ((i+1) * 3) ((xs.drop i).flatMap cC)):=fun W hW ty dc sc=>by
  have hgW:=hh2;have hvW:=hg2;rw [← hW] at hgW hvW;have:=bE (P:=Tryz.prog) W 108 108 ty 119 w.heap.size ((i+1) * 3) (xs.length - i) dc ⟨g,i * 3,none⟩ (xs.length - i) sc ((xs.drop i).flatMap cC) 3 hu hz
   (by rw [hdl];congr 1;simp only [Nat.min_def];split <;> omega)
   (fun j v hj=>by
     rw [Addr.add_lit,ac hvW];have:=hread (i * 3+j) v (by rw [← cM hl,List.getElem?_drop] at hj;exact hj);rw [ac hg] at this
     first | exact this | simpa using this)
   (fun j hj=>by rw [ac hgW,Array.getElem?_eq_getElem (by simp only [List.size_toArray,List.length_append,List.length_take,List.length_drop,Array.length_toList,hyl];omega)];rfl)
   (fun j hj=>ab hgW _)
   (fun v hv=>by
     obtain ⟨x,_,hx⟩:=List.mem_flatMap.1 hv;exact h1 x v hx)
  rw [show Nat.min (xs.length - i) (xs.length - i)=xs.length - i by simp only [Nat.min_def];split <;> omega] at this;exact this
 have HOWN:=hid (Own.insert_new (f:=cC) (size:=3) (e:=119) (base:=base) (w:=w.drew) hl (by omega:i≤xs.length) y hbase hGn hGm hRs hRt);have HGR:=hid (show w.grownBy W1 (some g) by rw [hW1];exact gC (bG (b7 w _)) _);have HW1:=hid hW1;clear hW1;have hz2:¬ ((i:Int)=(xs.length:Int)):=by omega
 have hz3:(c:Int)<(xs.length:Int)+1:=by omega
 have hw1:IntKind.i64.wrap ((i:Int)+1)=(i:Int)+1:=by rw [IntKind.wrap_i64];omega
 have hw2:IntKind.i64.wrap ((xs.length:Int)+1)=(xs.length:Int)+1:=by rw [IntKind.wrap_i64];omega
 have hb1:(0:Int)≤(i:Int)+1:=by omega
 have hin:i≤xs.length:=by omega
 have htn:((i:Int)+1).toNat=i+1:=by omega
 have hb3:(i:Int)≤(xs.length:Int)+1:=by omega
 unfold maxLen at hGm;have hGi:¬ (G=i):=by omega
 have hGim:¬ (G=i+1):=by omega
 have hci:¬ (c=i):=by omega
 clear hh1 hh2 hg1 hg2 hv1 hread htk hdl hz h hv hold hROW hRs hRt hkk hik htl hg hzs hsz hby hi0 hz0;go_enter Tryz.func72,Tryz.ntmps72;go_wp2_with (first
  | (at_builtin;refine Lib.wpList_append_run _ rfl _ _ _ _ rfl _ _ rfl rfl _ _ (hrz _) ?_)
  | (at_builtin;refine wpList_copy_runI _ rfl _ _ 108 108 rfl _ _ rfl rfl (hcpA _ rfl _ _) ?_))
 go_region_law_o (refine step_copy_runI rfl _ _ 108 108 rfl _ _ (by simp [Act.eval,Act.put]) (by simp [Act.eval,Act.put]) (hcpB ((W1.setCells w.heap.size (i * 3) (cC y)).drew) rfl 3 (G - (i+1)) (c - i)) ?_);go_wp2;go_ret;have hW1:=HW1.out;subst hW1;refine ⟨_,rfl,?_,?_,.inr rfl⟩
 ·rw [cE]
  first
  | exact Own.drew HOWN.out
  | (have h9:=HOWN.out;simp only [Nat.mul_one] at h9;exact Own.drew h9)
 ·rw [cE];exact bG (aw (aw HGR.out (.inr (Nat.le_refl _)) _) (.inr (Nat.le_refl _)) _)
theorem ra (xs:List Ce) (y:Ce) (base vb vc:Nat) (v:Value) (tA:TypeId) (w:World) (h:Own cC 3 119 base w v xs) (hbase:base≤w.heap.size) (hn:xs.length≤100000) (hv:w.heap[vb]?=some (.cells (cC y).toArray tA (0,0))):
  Calls Tryz.prog 72 #[v,.int .i64 xs.length,.slice (some ⟨vb,0,none⟩) 1 vc] w fun e w'=>
   ∃ v',e=.returned v'∧Own cC 3 119 base w' v' (xs ++ [y])∧w.grownBy w' v.ownBlock∧(v'.ownBlock=v.ownBlock∨v'.ownBlock=some w.heap.size):=by
 have HY:=hid (show Sl cC 3 w (.slice (some ⟨vb,0,none⟩) 1 vc) [y] from Sl.of_row hv (gE).hl (by simp) rfl);have H:=hid h;obtain ⟨A,c,rfl⟩:=Sl.len' (h.sl (gE).hl);clear h hv;go_enter Tryz.func72,Tryz.ntmps72;rcases A with _ | ⟨g,o,sp⟩
 ·have h0:xs.length=0∧c=0:=by
   rcases H.out.2 with ⟨hv,h0⟩ | ⟨g',cap,cur,hv,_⟩
   ·injection hv with e1 e2 e3;exact ⟨e2,e3⟩
   ·cases hv
  obtain ⟨h0,rfl⟩:=h0;have HX:=H;rw [h0] at HX ⊢;have hxs:xs=[]:=List.eq_nil_of_length_eq_zero h0;go_wp2_with (at_builtin;refine hid (am rfl rfl gE rfl rfl HX.out HY.out (by unfold maxLen;simp;omega) (by simp;omega) hbase ?_) |>.out)
  all_goals
   intro v' w' h1 h2 h3;have H1:=hid h1;have H2:=hid h2;have H3:=hid h3;clear h1 h2 h3;go_wp2_with fail;go_ret;exact ⟨v',rfl,by first | exact H1.out | (rw [hxs];exact H1.out),H2.out,H3.out⟩
 ·obtain ⟨rfl,rfl⟩:o=0∧sp=none:=by
   rcases H.out.2 with ⟨hv,h0⟩ | ⟨g',cap,cur,hv,_⟩
   ·cases hv
   ·injection hv with e1 e2 e3
    injection e1 with e1
    injection e1 with e1 e2 e3
    exact ⟨e2,e3⟩
  go_wp2_with (at_builtin;refine hid (am rfl rfl gE rfl rfl H.out HY.out (by unfold maxLen;simp;omega) (by simp;omega) hbase ?_) |>.out)
  all_goals
   intro v' w' h1 h2 h3;have H1:=hid h1;have H2:=hid h2;have H3:=hid h3;clear h1 h2 h3;go_wp2_with fail;go_ret;exact ⟨v',rfl,by first | exact H1.out | (rw [hxs];exact H1.out),H2.out,H3.out⟩
theorem re (xs:List Ce) (i:Nat) (y:Ce) (base vb vc:Nat) (v:Value) (tA:TypeId) (w:World) (h:Own cC 3 119 base w v xs) (hi:i≤xs.length) (hbase:base≤w.heap.size) (hn:xs.length≤100000) (hv:w.heap[vb]?=some (.cells (cC y).toArray tA (0,0))) (hne:v.ownBlock≠some vb):
  Calls Tryz.prog 72 #[v,.int .i64 i,.slice (some ⟨vb,0,none⟩) 1 vc] w fun e w'=>
   ∃ v',e=.returned v'∧Own cC 3 119 base w' v' (xs.insertIdx i y)∧w.grownBy w' v.ownBlock∧(v'.ownBlock=v.ownBlock∨v'.ownBlock=some w.heap.size):=by
 by_cases he:i=xs.length
 ·subst he;rw [fP xs _ y (Nat.le_refl _),List.take_length,List.drop_length];exact ra xs y base vb vc v tA w h hbase hn hv
 ·have h0:=h;rcases h.2 with ⟨_,h0⟩ | ⟨g,c,cur,rfl,_,hg,hnc,hm,hc,ht⟩
  ·omega
  ·by_cases hr:xs.length+1≤c
   ·refine (ol xs i y base g c vb vc tA w h0 (by omega) hr hv (fun e=>hne (by rw [e];rfl))).mono ?_;rintro e w' ⟨rfl,rfl⟩;exact ⟨_,rfl,(by have:=(Own.drew h0).insert (gE).hl hi hr y;first | exact this | simpa using this),aw (aw (bG (b7 w _)) (.inl rfl) _) (.inl rfl) _,.inl rfl⟩
   ·exact pU xs i y base g c vb vc tA w h0 (by omega) (by omega) hbase hn hv
end Go.Proofs.YtknioodagnjchaaGreatDoor
