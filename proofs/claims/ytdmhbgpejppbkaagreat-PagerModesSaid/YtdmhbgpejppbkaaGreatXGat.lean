/- The walk of a cache's Put. The walks of a cache's Clear and New. -/
import Derived.Test.YtdmhbgpejppbkaaGreatXGas
import Derived.Deep.QuietTactic
import Derived.BigQuiet
set_option maxRecDepth 100000
set_option maxHeartbeats 1000000
namespace Go.Proofs.YtdmhbgpejppbkaaGreat
open Go.Lib (hid)
open Go.RowKit Go.Maps
def bL (gs:List Nat) (E:Nat→En):List (Int × ByteArray × Bool):=gs.map fun g=>val (E g)
def without (n:Int) (L:List (Int × ByteArray × Bool)):List (Int × ByteArray × Bool):=L.filter fun x=>!(x.1 == n)
theorem fy {gs:List Nat} {E E':Nat→En} (h:∀ g,val (E' g)=val (E g)):bL gs E'=bL gs E:=List.map_congr_left fun g _=>h g
theorem lT {gc gr gm:Nat} {size:Int} {gs:List Nat} {E:Nat→En} (n:Int) (w:World) (h:CaIs w gc gr gm size gs E) (hw:gE n):
  Calls Tryz.prog 115 #[.pointer (some ⟨gc,0,none⟩),.int .i64 n] w fun e w'=>e=.returned (.tuple #[])∧∃ gs1 E1,CaIs w' gc gr gm size gs1 E1∧bL gs1 E1=without n (bL gs E)∧
   (∀ g ∈ gs1,(E1 g).n≠n)∧(∀ g ∈ gs1,g ∈ gs)∧Ch (fun k=>k ∈ gm :: gr :: gs) w w':=by
 by_cases hn:∃ g ∈ gs,(E g).n=n
 ·obtain ⟨g,hg,hn⟩:=hn;obtain ⟨xs,ys,rfl⟩:=List.append_of_mem hg
  have hne:∀ k ∈ xs ++ ys,(E k).n≠n:=fun k hk e=>by
   have hk':k ∈ xs ++ g :: ys:=by rcases List.mem_append.1 hk with hk | hk <;> simp [hk]
   have:=h.key_inj hk' hg (e.trans hn.symm);subst this;exact h.nd_out.2 (by simp only [List.mem_cons];exact .inr (.inr (.inr hk)))
  refine (lS n w h hn).mono fun e w' ⟨he,hc,_,hch⟩=>⟨he,_,_,hc,?_,fun k hk=>by rw [lc (da E g k)];exact hne k hk,fun k hk=>by rcases List.mem_append.1 hk with hk | hk <;> simp [hk],hch.mono fun k _ hk=>?_⟩
  ·rw [fy (da E g)];unfold bL without
   have hk:∀ l:List Nat,(∀ k ∈ l,(E k).n≠n)→(l.map fun g=>val (E g)).filter (fun x=>!(x.1 == n))=l.map fun g=>val (E g):=fun l hl=>List.filter_eq_self.2 fun x hx=>by
    obtain ⟨k,hk,rfl⟩:=List.mem_map.1 hx;simpa [val] using hl k hk
   rw [List.map_append,List.map_append,List.filter_append,List.map_cons,List.filter_cons,hk xs (fun k hk=>hne k (by simp [hk])),hk ys (fun k hk=>hne k (by simp [hk]))];rw [if_neg (by simp [val,hn])]
  ·simp only [List.mem_cons,List.mem_append] at hk ⊢;rcases hk with hk | hk | hk | hk <;> simp [hk]
 ·have hn':∀ g ∈ gs,(E g).n≠n:=fun g hg e=>hn ⟨g,hg,e⟩
  refine (uO n w h hw hn').mono fun e w' ⟨he,hww⟩=>⟨he,gs,E,hww ▸ h,?_,hn',fun g hg=>hg,hww ▸ Ch.refl _ _⟩
  unfold bL without;refine (List.filter_eq_self.2 fun x hx=>?_).symm;obtain ⟨k,hk,rfl⟩:=List.mem_map.1 hx;simpa [val] using hn' k hk
def iO (E:Nat→En) (g:Nat) (n:Int) (s:ByteArray) (d:Bool):Nat→En:=fun k=>if k=g then ⟨n,s,d,0,0⟩ else E k
theorem oM {E:Nat→En} {g k:Nat} {n:Int} {s:ByteArray} {d:Bool} (h:k≠g):iO E g n s d k=E k:=if_neg h
theorem yw {E:Nat→En} {g:Nat} {n:Int} {s:ByteArray} {d:Bool}:iO E g n s d g=⟨n,s,d,0,0⟩:=if_pos rfl
theorem xR (S:Nat→Prop) (E:Nat→En) (c g r:Nat) (n:Int) (s:ByteArray) (d:Bool) (u v:Value) (w:World) (h:MemE S w E) (hc:w.cell? ⟨c,1,none⟩=some (.pointer (some ⟨r,0,none⟩)))
  (hgb:w.heap[g]?=some (.cells #[.int .i64 n,.string s,.bool d,u,v] 175 (0,0))) (hr:S r) (hl:S (E r).o) (hg:¬ S g):
  Calls Tryz.prog 183 #[.pointer (some ⟨c,0,none⟩),.pointer (some ⟨g,0,none⟩)] w fun e w'=>e=.returned (.tuple #[])∧
   MemE (fun k=>k=g∨S k) w' (gW (iO E g n s d) g r)∧Ch (fun k=>k=g∨k=(E r).o∨k=r) w w':=by
 have hrg:r≠g:=fun e=>hg (e ▸ hr)
 have hlg:(E r).o≠g:=fun e=>hg (e ▸ hl)
 have er:iO E g n s d r=E r:=oM hrg
 refine (pt c g r (E r).o u v _ w hc (h.cell hr 3) (by simp [World.cell?,hgb]) (by simp [World.cell?,hgb]) (h.cell hl 4) (by simp [World.frozen?,hgb]) (by simp [World.frozen?,hgb]) (h.frozen hl 4) (h.frozen hr 3) hlg hrg).mono fun _ _ ⟨he,hw⟩=>⟨he,?_,
   (((((Ch.refl _ w).setCell (p:=⟨g,3,none⟩) (.inl rfl) _).setCell (p:=⟨g,4,none⟩) (.inl rfl) _).setCell (p:=⟨(E r).o,4,none⟩) (.inr (.inl rfl)) _).setCell (p:=⟨r,3,none⟩) (.inr (.inr rfl)) _).eqv hw⟩
 refine MemE.eqv ?_ hw;unfold gW;rw [er];refine MemE.seto (MemE.setx ?_ (.inr hl) _) (.inr hr) _;intro k hk;by_cases e:k=g
 ·subst e;simp [World.setCell,Array.getElem?_modify,hgb,setx,seto,iO,vu]
 ·rw [Below.heap_setCell _ _ _ _ e,Below.heap_setCell _ _ _ _ e,h k (hk.resolve_left e)];simp [setx,seto,iO,e]
structure Pg where
 n:Int
 s:ByteArray
def Pg.cells (x:Pg):List Value:=[.int .i64 x.n,.string x.s]
theorem Pg.len (x:Pg):x.cells.length=2:=rfl
theorem Av:ElemT Tryz.prog 135 134 Pg.cells 2 24:=
 ElemT.mk' (z:=.agg #[.int .i64 0,.string ⟨#[]⟩]) Tryz.underlying135 (by kernel_rfl) (by rfl) (by omega) Pg.len (by intro x u hu;simp [Pg.cells] at hu;rcases hu with rfl | rfl <;> rfl)
def fH (x:Int × ByteArray × Bool):Pg:=⟨x.1,x.2.1⟩
def fZ (size:Int) (n:Int) (s:ByteArray) (d:Bool) (L:List (Int × ByteArray × Bool)):List (Int × ByteArray × Bool) × List Pg:=
 let l:=without n L ++ [(n,s,d)]
 (l.drop (l.length - size.toNat),((l.take (l.length - size.toNat)).filter fun x=>x.2.2).map fH)
def Ck (gc gr gm:Nat) (size:Int) (gs:List Nat) (E:Nat→En) (n:Int) (s:ByteArray) (d:Bool) (w:World) (e:Ending) (w':World):Prop:=
 ∃ v gs2 E2,e=.returned v∧CaIs w' gc gr gm size gs2 E2∧bL gs2 E2=(fZ size n s d (bL gs E)).1∧Sl Pg.cells 2 w' v (fZ size n s d (bL gs E)).2∧New w v∧(∀ k,v.ownBlock=some k→k ∉ gs2)∧
   (∀ g ∈ gs2,g ∈ gs∨w.heap.size≤g)∧Ch (fun k=>k ∈ gm :: gr :: gs) w w'
theorem MapIs.drewN {w:World} {gm:Nat} {K:List (Int × Nat)} (h:MapIs w gm K) (n:Nat):MapIs (w.drewN n) gm K:=h.block rfl
theorem ue {size n:Int} {s:ByteArray} {d:Bool} {L l:List (Int × ByteArray × Bool)} (h:l=without n L ++ [(n,s,d)]) (hl:(l.length:Int)≤size):fZ size n s d L=(l,[]):=by
 unfold fZ;rw [← h];have:l.length - size.toNat=0:=by omega
 simp [this]
theorem vM {size n:Int} {s:ByteArray} {d:Bool} {L l:List (Int × ByteArray × Bool)} {y:Int × ByteArray × Bool} (h:y :: l=without n L ++ [(n,s,d)]) (hl:(l.length:Int)=size):fZ size n s d L=(l,if y.2.2=true then [fH y] else []):=by
 unfold fZ;rw [← h];have:(y :: l).length - size.toNat=1:=by rw [List.length_cons];omega
 simp only [this,List.drop_succ_cons,List.drop_zero,List.take_succ_cons,List.take_zero,List.filter_cons,List.filter_nil]
 split <;> simp
theorem xw (w:World) (n:Nat):Below w.heap.size w (w.drewN n):=⟨rfl,rfl,rfl,Nat.le_refl _,fun _ _=>rfl⟩
theorem CaIs.drewN {gc gr gm:Nat} {size:Int} {gs:List Nat} {E:Nat→En} {w:World} (h:CaIs w gc gr gm size gs E) (n:Nat):CaIs (w.drewN n) gc gr gm size gs E:=h.ch ((Ch.refl (fun _=>False) w).drewN n) (fun _ _ h=>h)
theorem pr {E:Nat→En} {g k:Nat} {n:Int} {s:ByteArray} {d:Bool} (h:k≠g):val (iO E g n s d k)=val (E k):=by rw [oM h]
theorem CaIs.add {gc gr gm:Nat} {size:Int} {gs:List Nat} {E:Nat→En} {n:Int} {s:ByteArray} {d:Bool} {w1 w2 w3:World} {o:Obj} (h:CaIs w1 gc gr gm size gs E) (hw:gE n)
  (hm:MapIs w2 gm ((gs.map fun g=>((E g).n,g)) ++ [(n,w1.heap.size)])) (hg:(w1.alloc o).grownBy w2 (some gm)) (hM:MemE (fun k=>k=w1.heap.size∨k ∈ gr :: gs) w3 (gW (iO E w1.heap.size n s d) w1.heap.size gr))
  (hc:Ch (fun k=>k=w1.heap.size∨k=(E gr).o∨k=gr) w2 w3):
  CaIs w3 gc gr gm size (gs ++ [w1.heap.size]) (gW (iO E w1.heap.size n s d) w1.heap.size gr)∧bL (gs ++ [w1.heap.size]) (gW (iO E w1.heap.size n s d) w1.heap.size gr)=bL gs E ++ [(n,s,d)]∧Ch (fun k=>k ∈ gm :: gr :: gs) w1 w3:=by
 obtain ⟨n1,n2,n3,n4⟩:=h.nd';have hlt:∀ k ∈ gr :: gs,k<w1.heap.size:=fun k hk=>h.mem.lt hk
 have hgc:=aO h.bc;have hgm:=h.map.lt;generalize hgg:w1.heap.size=g at *;have hgn:g ∉ gr :: gs:=fun hk=>by have:=hlt g hk;omega
 have hlast:(E gr).o ∈ gr :: gs:=by rw [h.seg.last];exact List.getLast_mem _
 have hne:∀ k ∈ gs,k≠g:=fun k hk e=>hgn (e ▸ List.mem_cons_of_mem _ hk)
 have hn:∀ k ∈ gs,(gW (iO E g n s d) g gr k).n=(E k).n:=fun k hk=>lc ((eO _ _ _ _).trans (pr (hne k hk)))
 have hng:val (gW (iO E g n s d) g gr g)=(n,s,d):=by rw [eO,yw];rfl
 have hbk:∀ k ∈ gr :: gs,iO E g n s d k=E k:=fun k hk=>oM fun e=>hgn (e ▸ hk)
 have hmo:∀ k ∈ gs ++ [gr],k ∈ gr :: gs:=fun k hk=>by
  rcases List.mem_append.1 hk with hk | hk
  ·exact List.mem_cons_of_mem _ hk
  ·simp at hk;simp [hk]
 have c1:Ch (fun k=>k ∈ gm :: gr :: gs) w1 w2:=((Ch.refl _ w1).alloc o).trans (Ch.of_grown hg (fun k e=>by cases e;simp))
 have c2:Ch (fun k=>k ∈ gm :: gr :: gs) w1 w3:=c1.then hc (by
  rintro k (rfl | rfl | rfl)
  ·exact .inr (by omega)
  ·exact .inl (List.mem_cons_of_mem _ hlast)
  ·exact .inl (by simp))
 refine ⟨⟨c2.keep h.bc (fun hk=>?_),fun k hk=>hM k ?_,sR (h.seg.congr (fun k hk=>by rw [hbk k hk]) (fun k hk=>by rw [hbk k (hmo k hk)])) n1 hgn,?_,?_,fun k hk=>?_⟩,?_,c2⟩
 ·rcases List.mem_cons.1 hk with hk | hk
  ·exact n4 hk
  ·exact n2 hk
 ·rcases List.mem_cons.1 hk with hk | hk
  ·exact .inr (by simp [hk])
  ·rcases List.mem_append.1 hk with hk | hk
   ·exact .inr (List.mem_cons_of_mem _ hk)
   ·simp at hk;exact .inl hk
 ·have hp:(gc :: gm :: gr :: (gs ++ [g])).Perm (g :: gc :: gm :: gr :: gs):=by have:=List.perm_append_singleton g (gc :: gm :: gr :: gs);simpa using this
  rw [hp.nodup_iff,List.nodup_cons];refine ⟨fun hk=>?_,h.nd⟩;simp only [List.mem_cons] at hk;rcases hk with hk | hk | hk
  ·omega
  ·omega
  ·exact hgn (by simpa using hk)
 ·rw [List.map_append,List.map_congr_left (g:=fun k=>((E k).n,k)) (fun k hk=>by rw [hn k hk])];simp only [List.map_cons,List.map_nil,lc (b:=⟨n,s,d,0,0⟩) (hng.trans rfl)];exact hm.ch hc (by
   rintro (e | e | e)
   ·omega
   ·exact n3 (e ▸ hlast)
   ·exact n3 (by simp [e]))
 ·rcases List.mem_append.1 hk with hk | hk
  ·rw [hn k hk];exact h.wf k hk
  ·simp at hk;subst hk;rw [lc (b:=⟨n,s,d,0,0⟩) (hng.trans rfl)];exact hw
 ·unfold bL;rw [List.map_append,List.map_congr_left (g:=fun k=>val (E k)) (fun k hk=>(eO _ _ _ _).trans (pr (hne k hk)))];simp only [List.map_cons,List.map_nil,hng]
theorem zO {gc gr gm:Nat} {size:Int} {gs:List Nat} {E:Nat→En} (n:Int) (s:ByteArray) (d:Bool) (w:World) (h:CaIs w gc gr gm size gs E) (hw:gE n) (hl:(gs.length:Int)≤size) (h1:1≤size) (h2:size≤256):
  Calls Tryz.prog 184 #[.pointer (some ⟨gc,0,none⟩),.int .i64 n,.string s,.bool d] w (Ck gc gr gm size gs E n s d w):=by
 have HF:=hid (lT n w h hw);have HW:=hid hw;have HL:=hid hl;have HV:=hid h;clear h hw hl;go_enter Tryz.func184,Tryz.ntmps184;go_wp2_with fail;refine HF.out.mono ?_;rintro e w1 ⟨rfl,gs1,E1,hca,hvals,hne,hsub,hch⟩;have HC1:=hid hca;have HVA:=hid hvals;have HNE:=hid hne;have HSU:=hid hsub;have HCH:=hid hch;have hlen1:gs1.length≤gs.length:=by have:=congrArg List.length hvals;unfold bL without at this;rw [List.length_map] at this;have h3:=List.length_filter_le (fun x:Int × ByteArray × Bool=>!(x.1 == n)) (gs.map fun g=>val (E g));rw [List.length_map] at h3;omega
 have HL1:=hid hlen1;have c2:=hca.cell 2;have hlt:=aO hca.bc;have hmapA:MapIs (w1.alloc (.cells #[.int .i64 n,.string s,.bool d,.pointer none,.pointer none] 175)) gm (gs1.map fun g=>((E1 g).n,g)):=hca.map.ch ((Ch.refl (fun _=>False) w1).alloc _) (fun h=>h);obtain ⟨w2,hrun,hmap2,hg2⟩:=hmapA.put w1.heap.size HW.out (tv hne) (by rw [List.length_map];have:=HL.out;have:=h2;simp [maxLen];omega);have HM2:=hid hmap2;have HG2:=hid hg2;clear hca hvals hne hsub hch hlen1 hmapA hmap2 hg2;go_wp2_with fail;have hgr2:=Ch.of_grown (S:=fun k=>k=gm) HG2.out (fun k e=>by cases e;rfl);obtain ⟨n1,n2,n3,n4⟩:=HC1.out.nd';have hM2:MemE (fun k=>k ∈ gr :: gs1) w2 E1:=(HC1.out.mem.ch ((Ch.refl (fun _=>False) w1).alloc _) (fun _ _ h=>h)).ch hgr2 (fun k hk e=>n3 (e ▸ hk));have hc2:w2.heap[gc]?=some (.cells #[.int .i64 size,.pointer (some ⟨gr,0,none⟩),.map (some gm)] 126 (0,0)):=hgr2.keep (((Ch.refl (fun _=>False) w1).alloc _).keep HC1.out.bc (fun h=>h)) n4;have hg2:w2.heap[w1.heap.size]?=some (.cells #[.int .i64 n,.string s,.bool d,.pointer none,.pointer none] 175 (0,0)):=hgr2.keep (heap_alloc_new _ _) (fun e=>by have:=HC1.out.map.lt;omega);have hlast:(E1 gr).o ∈ gr :: gs1:=by rw [HC1.out.seg.last];exact List.getLast_mem _
 refine (xR _ E1 gc w1.heap.size gr n s d _ _ w2 hM2 (by simp [World.cell?,hc2]) hg2 (by simp) hlast (fun hk=>by have:=HC1.out.mem.lt hk;omega)).mono ?_;rintro e w3 ⟨rfl,hm3,hc3⟩;obtain ⟨hca3,hv3,hch3⟩:=HC1.out.add HW.out HM2.out HG2.out hm3 hc3;have HC3:=hid hca3;have HV3:=hid (hv3.trans (by rw [HVA.out]))
 have HCH3:=hid (HCH.out.trans (hch3.mono (fun k _ hk=>by
  simp only [List.mem_cons] at hk ⊢;rcases hk with hk | hk | hk
  ·exact .inl hk
  ·exact .inr (.inl hk)
  ·exact .inr (.inr (HSU.out k hk)))))
 have c0:=hca3.cell 0;have c1:=hca3.cell 1;have c2:=hca3.cell 2
 have hlen:∀ nq ty,(Builtin.len_ #[124] ty #[.map (some gm)]).run Tryz.prog (w3.drewN nq)=.ok (.int .i64 ((gs1.length:Int)+1)) (w3.drewN nq):=fun nq ty=>by
  have:=(hca3.map.drewN nq).len ty;rw [List.length_map,List.length_append] at this;exact this
 have hs1:=hid (show ∀ k ∈ gs1 ++ [w1.heap.size],k ∈ gs∨w.heap.size≤k from fun k hk=>by
  rcases List.mem_append.1 hk with hk | hk
  ·exact .inl (HSU.out k hk)
  ·simp at hk;exact .inr (by rw [hk];exact HCH.out.size))
 clear hgr2 n1 n2 n3 n4 hM2 hc2 hg2 hlast hm3 hc3 hca3 hv3 hch3 hrun hlt;generalize gW (iO E1 w1.heap.size n s d) w1.heap.size gr=E3 at *;have hll:=HL1.out;have hl0:=HL.out;by_cases hfull:size<(gs1.length:Int)+1
 ·have hd:decide (size<(gs1.length:Int)+1)=true:=decide_eq_true hfull;obtain ⟨y,rest,hyr⟩:∃ y rest,gs1 ++ [w1.heap.size]=y :: rest:=by
   cases hh:gs1 ++ [w1.heap.size] with
   | nil=>simp at hh
   | cons y rest=>exact ⟨y,rest,rfl⟩
  rw [hyr] at HC3 HV3 hs1;have hrl:rest.length=gs1.length:=by have:=congrArg List.length hyr;simp at this;omega
  have hfw:∀ nq,Calls Tryz.prog 115 #[.pointer (some ⟨gc,0,none⟩),.int .i64 (E3 y).n] (w3.drewN nq) fun e w'=>e=.returned (.tuple #[])∧CaIs w' gc gr gm size rest (gX E3 y)∧
   w'.heap[y]?=w3.heap[y]?∧Ch (fun k=>k ∈ gm :: gr :: rest) w3 w':=fun nq=>(lS (xs:=[]) (E3 y).n _ (HC3.out.drewN nq) rfl).mono fun e w' ⟨h1,h2,h3,h4⟩=>⟨h1,h2,h3,((Ch.refl _ w3).drewN nq).trans h4⟩
  have HFW:=hid hfw;have y4:=HC3.out.mem.cell (g:=gr) (by simp) 4;rw [show (E3 gr).x=y from HC3.out.seg.1] at y4;have y0:=HC3.out.mem.cell (g:=y) (by simp) 0;have HLR:=hid (show (rest.length:Int)=size by omega);have HPOP:=hid (vM (size:=size) (y:=val (E3 y)) (l:=bL rest E3) HV3.out (by unfold bL;rw [List.length_map];exact HLR.out));clear hfw hyr hfull hrl hll hl0;go_wp2_with fail;refine wp_loop_rounds 2 ?_;rw [rounds_succ];go_wp2_with fail;go_quiet (fail);go_wp2_with fail;refine (HFW.out _).mono ?_;rintro e w5 ⟨rfl,hca5,hy5,hch5⟩;have HC5:=hid hca5;have hyb:=hy5.trans (HC3.out.mem y (by simp))
  have HCH5:=hid (HCH3.out.then hch5 (fun k hk=>by
   simp only [List.mem_cons] at hk ⊢;rcases hk with hk | hk | hk
   ·exact .inl (.inl hk)
   ·exact .inl (.inr (.inl hk))
   ·rcases hs1.out k (List.mem_cons_of_mem _ hk) with hk | hk
    ·exact .inl (.inr (.inr hk))
    ·exact .inr hk))
  have HYB:=hid hyb;have d2:w5.cell? ⟨y,2,none⟩=some (.bool (E3 y).d):=by simp [World.cell?,hyb,vu]
  have d0:w5.cell? ⟨y,0,none⟩=some (.int .i64 (E3 y).n):=by simp [World.cell?,hyb,vu]
  have d1:w5.cell? ⟨y,1,none⟩=some (.string (E3 y).s):=by simp [World.cell?,hyb,vu]
  have c0':=hca5.cell 0;have c2':=hca5.cell 2;clear hca5 hy5 hch5 hyb c0 c1 c2 hlen y4 y0 hd;have hd':decide (size<(rest.length:Int))=false:=decide_eq_false (by have:=HLR.out;omega);cases hdy:(E3 y).d
  ·rw [hdy] at d2;have HDY:=hid hdy
   have hlen:∀ nq ty,(Builtin.len_ #[124] ty #[.map (some gm)]).run Tryz.prog (w5.drewN nq)=.ok (.int .i64 (rest.length:Int)) (w5.drewN nq):=fun nq ty=>by
    have:=(HC5.out.map.drewN nq).len ty;rw [List.length_map] at this;exact this
   clear hdy;go_wp2_with fail;rw [rounds_succ];go_wp2_with fail;go_quiet (fail);go_wp2_with fail;go_ret;refine ⟨.slice none 0 0,rest,gX E3 y,rfl,HC5.out.drewN _,?_,?_,New.nil,(fun k hk=>by cases hk),fun k hk=>hs1.out k (List.mem_cons_of_mem _ hk),HCH5.out.drewN _⟩
   ·rw [HPOP.out];exact fy (da E3 y)
   ·rw [HPOP.out,if_neg (by rw [show (val (E3 y)).2.2=(E3 y).d from rfl,HDY.out];simp)];exact Sl.nil
  ·rw [hdy] at d2;have HDY:=hid hdy;clear hdy;go_wp2_with (at_builtin;refine Hid.out ?_);refine hid ?_;refine dx (xs:=([]:List Pg)) (base:=w5.heap.size) rfl rfl Av rfl rfl Own.nil (Sl.one (⟨(E3 y).n,(E3 y).s⟩:Pg) (by simp) Pg.len rfl) (by simp [maxLen]) (by simp) (by simp) ?_;intro v2 w6 ho2 hg2 hat2;rw [List.nil_append] at ho2;have HO:=hid ho2;have HB6:=hid (show Below w5.heap.size w5 w6 from nY ((Below.refl w5.heap.size w5).alloc (Nat.le_refl _) _) hg2 (by simp) (fun k hk=>by cases hk));have HC6:=hid (HC5.out.ch (Ch.of_below (S:=fun _=>False) HB6.out) (fun _ _ h=>h));have c0'':=HC6.out.cell 0;have c2'':=HC6.out.cell 2
   have hlen:∀ nq ty,(Builtin.len_ #[124] ty #[.map (some gm)]).run Tryz.prog (w6.drewN nq)=.ok (.int .i64 (rest.length:Int)) (w6.drewN nq):=fun nq ty=>by
    have:=(HC6.out.map.drewN nq).len ty;rw [List.length_map] at this;exact this
   have HNW:=hid (show ∀ k,v2.ownBlock=some k→w5.heap.size≤k from fun k hk=>(ho2.lt k hk).1);clear ho2 hg2 hat2 d0 d1 d2 c0' c2';go_wp2_with fail;rw [rounds_succ];go_wp2_with fail;go_quiet (fail);go_wp2_with fail;go_ret;refine ⟨v2,rest,gX E3 y,rfl,HC6.out.drewN _,?_,?_,fun k hk=>Nat.le_trans HCH5.out.size (HNW.out k hk),(fun k hk hm=>?_),fun k hk=>hs1.out k (List.mem_cons_of_mem _ hk),(HCH5.out.trans (Ch.of_below HB6.out)).drewN _⟩
   ·rw [HPOP.out];exact fy (da E3 y)
   ·rw [HPOP.out,if_pos (show (val (E3 y)).2.2=true from HDY.out)];exact (HO.out.sl Pg.len).keep (xw _ _)
   ·have:=HC5.out.mem.lt (g:=k) (by simp [hm]);have:=HNW.out k hk;omega
 ·have hd:decide (size<(gs1.length:Int)+1)=false:=decide_eq_false (by omega);have HST:=hid (ue (size:=size) (l:=bL (gs1 ++ [w1.heap.size]) E3) HV3.out (by unfold bL;rw [List.length_map,List.length_append,List.length_singleton];omega));clear hfull;go_wp2_with fail;refine wp_loop_rounds 1 ?_;rw [rounds_succ];go_wp2_with fail;go_quiet (fail);go_wp2_with fail;go_ret;exact ⟨.slice none 0 0,_,E3,rfl,HC3.out.drewN _,by rw [HST.out],by rw [HST.out];exact Sl.nil,New.nil,(fun k hk=>by cases hk),hs1.out,HCH3.out.drewN _⟩
def AN (gc:Nat) (size:Int) (w:World) (e:Ending) (w':World):Prop:=e=.returned (.tuple #[])∧∃ gr gm E,CaIs w' gc gr gm size [] E∧w.heap.size≤gr∧w.heap.size≤gm∧Ch (fun k=>k=gc) w w'
theorem qM (gc:Nat) (size:Int) (u v:Value) (w:World) (h:w.heap[gc]?=some (.cells #[.int .i64 size,u,v] 126 (0,0))):
  Calls Tryz.prog 100 #[.pointer (some ⟨gc,0,none⟩)] w (AN gc size w):=by
 have hlt:=aO h;have hmm:=@run_makeMap Tryz.prog;have c1:w.cell? ⟨gc,1,none⟩=some u:=by simp [World.cell?,h]
 have f1:w.frozen? ⟨gc,1,none⟩=false:=by simp [World.frozen?,h]
 have HB:=hid h;clear h;go_enter Tryz.func100,Tryz.ntmps100;go_wp2_with fail;have hx:(w.setCell ⟨gc,1,none⟩ (.pointer (some ⟨w.heap.size,0,none⟩))).heap[gc]?=some (.cells #[.int .i64 size,.pointer (some ⟨w.heap.size,0,none⟩),v] 126 (0,0)):=by simp [World.setCell,Array.getElem?_modify,HB.out]
 have hc1:Ch (fun k=>k=gc) w ((w.setCell ⟨gc,1,none⟩ (.pointer (some ⟨w.heap.size,0,none⟩))).alloc (.cells #[.int .i64 0,.string ⟨#[]⟩,.bool false,.pointer none,.pointer none] 175)):=((Ch.refl (fun k=>k=gc) w).setCell (p:=⟨gc,1,none⟩) rfl _).alloc _;have hr1:((w.setCell ⟨gc,1,none⟩ (.pointer (some ⟨w.heap.size,0,none⟩))).alloc (.cells #[.int .i64 0,.string ⟨#[]⟩,.bool false,.pointer none,.pointer none] 175)).heap[w.heap.size]?=some (.cells #[.int .i64 0,.string ⟨#[]⟩,.bool false,.pointer none,.pointer none] 175 (0,0)):=by
  have:=heap_alloc_new (w.setCell ⟨gc,1,none⟩ (.pointer (some ⟨w.heap.size,0,none⟩))) (.cells #[.int .i64 0,.string ⟨#[]⟩,.bool false,.pointer none,.pointer none] 175)
  rwa [World.size_setCell] at this
 have hg1:((w.setCell ⟨gc,1,none⟩ (.pointer (some ⟨w.heap.size,0,none⟩))).alloc (.cells #[.int .i64 0,.string ⟨#[]⟩,.bool false,.pointer none,.pointer none] 175)).heap[gc]?=some (.cells #[.int .i64 size,.pointer (some ⟨w.heap.size,0,none⟩),v] 126 (0,0)):=(Below.heap_alloc _ _ _ (by rw [World.size_setCell];exact hlt)).trans hx;have HC1:=hid hc1;clear hx c1 f1 hlt hc1;generalize ((w.setCell ⟨gc,1,none⟩ (.pointer (some ⟨w.heap.size,0,none⟩))).alloc (.cells #[.int .i64 0,.string ⟨#[]⟩,.bool false,.pointer none,.pointer none] 175))=w1 at *;have HGR:=hid (Nat.le_refl w.heap.size);have HNE:=hid (show w.heap.size≠gc by have:=aO HB.out;omega);generalize hgr:w.heap.size=gr at hr1 hg1 HNE ⊢;have HG:=hid hgr;have HR1:=hid hr1;have HG1:=hid hg1;have c1:w1.cell? ⟨gc,1,none⟩=some (.pointer (some ⟨gr,0,none⟩)):=by simp [World.cell?,hg1]
 have r3:w1.cell? ⟨gr,3,none⟩=some (.pointer none):=by simp [World.cell?,hr1]
 have r4:w1.cell? ⟨gr,4,none⟩=some (.pointer none):=by simp [World.cell?,hr1]
 have f3:w1.frozen? ⟨gr,3,none⟩=false:=by simp [World.frozen?,hr1]
 have f4:w1.frozen? ⟨gr,4,none⟩=false:=by simp [World.frozen?,hr1]
 have hne1:=HNE.out;have hne2:gc≠gr:=fun e=>HNE.out e.symm
 clear hr1 hg1 hgr;go_region;have hc2:Ch (fun k=>k=gr) w1 ((w1.setCell ⟨gr,3,none⟩ (.pointer (some ⟨gr,0,none⟩))).setCell ⟨gr,4,none⟩ (.pointer (some ⟨gr,0,none⟩))):=((Ch.refl (fun k=>k=gr) w1).setCell (p:=⟨gr,3,none⟩) rfl _).setCell (p:=⟨gr,4,none⟩) rfl _;have hr2:((w1.setCell ⟨gr,3,none⟩ (.pointer (some ⟨gr,0,none⟩))).setCell ⟨gr,4,none⟩ (.pointer (some ⟨gr,0,none⟩))).heap[gr]?=some (vu ⟨0,⟨#[]⟩,false,gr,gr⟩):=by simp [World.setCell,Array.getElem?_modify,HR1.out,vu]
 have HR2:=hid hr2;have HC2:=hid hc2;clear c1 r3 r4 f3 f4 hr2 hc2;generalize (w1.setCell ⟨gr,3,none⟩ (.pointer (some ⟨gr,0,none⟩))).setCell ⟨gr,4,none⟩ (.pointer (some ⟨gr,0,none⟩))=w2 at *;have hg2:=HC2.out.keep HG1.out (fun e=>HNE.out e.symm);have HG2:=hid hg2;have c2:w2.cell? ⟨gc,2,none⟩=some v:=by simp [World.cell?,hg2]
 have f2:w2.frozen? ⟨gc,2,none⟩=false:=by simp [World.frozen?,hg2]
 have hlt2:=aO hg2;clear hg2;go_wp2_with fail;go_end0
 have hch:Ch (fun k=>k=gc) w ((w2.setCell ⟨gc,2,none⟩ (.map (some w2.heap.size))).alloc (.map #[] 0)).drew:=
  (((HC1.out.then HC2.out (fun k e=>.inr (by rw [e,← HG.out];exact Nat.le_refl _))).setCell (p:=⟨gc,2,none⟩) rfl _).alloc _).drew
 have hbc:(w2.setCell ⟨gc,2,none⟩ (.map (some w2.heap.size))).heap[gc]?=some (.cells #[.int .i64 size,.pointer (some ⟨gr,0,none⟩),.map (some w2.heap.size)] 126 (0,0)):=by simp [World.setCell,Array.getElem?_modify,HG2.out]
 have hlg:=aO HG2.out;have hlr:=aO HR2.out;have hmade:=MapIs.made (w2.setCell ⟨gc,2,none⟩ (.map (some w2.heap.size)));rw [World.size_setCell] at hmade;refine ⟨rfl,gr,w2.heap.size,fun _=>⟨0,⟨#[]⟩,false,gr,gr⟩,⟨?_,?_,⟨rfl,rfl⟩,?_,hmade.block rfl,fun g hg=>by cases hg⟩,by rw [HG.out];exact Nat.le_refl _,Nat.le_trans HC1.out.size HC2.out.size,hch⟩
 ·exact (Below.heap_alloc _ _ _ (by rw [World.size_setCell];exact hlg)).trans hbc
 ·intro g hg;simp only [List.mem_cons,List.not_mem_nil,or_false] at hg;subst hg;exact (Below.heap_alloc _ _ _ (by rw [World.size_setCell];exact hlr)).trans ((Below.heap_setCell _ _ _ _ HNE.out).trans HR2.out)
 ·have:=HNE.out;simp only [List.nodup_cons,List.mem_cons,List.not_mem_nil,or_false,not_or];exact ⟨⟨by omega,fun e=>this e.symm⟩,by omega,id,List.Pairwise.nil⟩
def xW (n:Int):Int:=min (max n 1) 256
theorem oo (n:Int):1≤xW n∧xW n≤256:=by unfold xW;omega
def Cm (n:Int) (w:World) (e:Ending) (w':World):Prop:=∃ gc gr gm E,e=.returned (.pointer (some ⟨gc,0,none⟩))∧CaIs w' gc gr gm (xW n) [] E∧w.heap.size≤gc∧w.heap.size≤gr∧w.heap.size≤gm∧Below w.heap.size w w'
theorem zV (n:Int) (w:World):Calls Tryz.prog 43 #[.int .i64 n] w (Cm n w):=by
 go_enter Tryz.func43,Tryz.ntmps43;go_wp2_with fail
 all_goals
  refine (qM _ _ _ _ _ (heap_alloc_new _ _)).mono ?_;rintro e w1 ⟨rfl,gr,gm,E,hca,h1,h2,hch⟩;have HCA:=hid hca;have HB:=hid (((Below.refl w.heap.size w).alloc (Nat.le_refl _) _).trans (hch.below (by simp) (fun k e=>by rw [e];exact Nat.le_refl _)));simp only [World.size_alloc] at h1 h2;clear hca hch;go_wp2_with fail;go_ret;refine ⟨_,gr,gm,E,rfl,?_,Nat.le_refl _,by omega,by omega,HB.out⟩;have:=HCA.out;rw [show xW n=_ from ?_]
  ·exact this
  ·unfold xW;omega
end Go.Proofs.YtdmhbgpejppbkaaGreat
