/- The walk of a cache's Dirty. A cache's contracts, by the list of what it holds. A pager: plain; in memory. pager: end, now, noted, blank, write, lay, main. pager: what a call leaves (PTo); noted, write, lay, spill. -/
import Derived.Test.YtdmhbgpejppbkaaGreatXGau
import Derived.Test.YtdmhbgpejppbkaaGreatXGas
import Derived.Test.YtdmhbgpejppbkaaGreatXGaj
import Derived.RangeFuncBox
import Derived.Shelf.RegionOpen
import Derived.Maps.AppendAt
set_option maxRecDepth 100000
set_option maxHeartbeats 2000000
namespace Go.Proofs.YtdmhbgpejppbkaaGreat
open Go.Lib (hid)
open Go.RowKit Go.Maps Go.Sort Go.Shelf
attribute [local go_sem] Oper.semAt_some
def dU (ts:Array TypeId) (ty:TypeId) (args:Array Value):=Builtin.append_ ts ty args
theorem fN (ts:Array TypeId) (ty:TypeId) (args:Array Value):Builtin.append_ ts ty args=dU ts ty args:=rfl
theorem Bz:(Tryz.prog.info? 134).map (fun i=>(i.zero,i.size,i.bytes))=some (some (.agg #[.int .i64 0,.string ⟨#[]⟩]),2,24):=by kernel_rfl
def ja (E:Nat→En) {K:List (Int × Nat)} (ps:List (Pr K)):List Pg:=(ps.filter fun p=>(E p.1.2).d).map fun p=>⟨(E p.1.2).n,(E p.1.2).s⟩
theorem ky {E:Nat→En} {K:List (Int × Nat)} (ps:List (Pr K)) {p:Pr K} (h:(E p.1.2).d=true):ja E (ps ++ [p])=ja E ps ++ [⟨(E p.1.2).n,(E p.1.2).s⟩]:=by simp [ja,h]
theorem qL {E:Nat→En} {K:List (Int × Nat)} (ps:List (Pr K)) {p:Pr K} (h:(E p.1.2).d=false):ja E (ps ++ [p])=ja E ps:=by simp [ja,h]
theorem zQ {gs:List Nat} {E:Nat→En} (p:Pr (gs.map fun g=>((E g).n,g))):p.1.2 ∈ gs:=by obtain ⟨g,hg,e⟩:=List.mem_map.1 p.2;rw [← e];exact hg
theorem xj {gs:List Nat} {E:Nat→En} {ys:List (Pr (gs.map fun g=>((E g).n,g)))} (hp:(ys.map (·.1)).Perm (gs.map fun g=>((E g).n,g))):(ja E ys).Perm (((bL gs E).filter fun x=>x.2.2).map fH):=by
 have e1:ja E ys=((ys.map (·.1)).filter fun p=>(E p.2).d).map fun p=>(⟨(E p.2).n,(E p.2).s⟩:Pg):=by unfold ja;rw [List.filter_map,List.map_map];rfl
 have e2:((bL gs E).filter fun x=>x.2.2).map fH=((gs.map fun g=>((E g).n,g)).filter fun p=>(E p.2).d).map fun p=>(⟨(E p.2).n,(E p.2).s⟩:Pg):=by unfold bL;rw [List.filter_map,List.map_map,List.filter_map,List.map_map];rfl
 rw [e1,e2];exact (hp.filter _).map _
theorem xc {gs:List Nat} {E:Nat→En} (h:((gs.map fun g=>((E g).n,g)).map (·.1)).Nodup):((((bL gs E).filter fun x=>x.2.2).map fH).map (·.n)).Nodup:=by
 have:(((bL gs E).filter fun x=>x.2.2).map fH).map (·.n)=((bL gs E).filter fun x=>x.2.2).map (·.1):=by rw [List.map_map];rfl
 rw [this];refine List.Nodup.sublist ((List.filter_sublist).map _) ?_;have:(bL gs E).map (·.1)=(gs.map fun g=>((E g).n,g)).map (·.1):=by unfold bL;rw [List.map_map,List.map_map];rfl
 rw [this];exact h
theorem se {xs ys:List Pg} (hp:ys.Perm xs) (hnd:(xs.map (·.n)).Nodup):ys.mergeSort jI=xs.mergeSort jI:=by
 have tr:∀ a b c:Pg,jI a b=true→jI b c=true→jI a c=true:=fun a b c h1 h2=>by simp only [jI,decide_eq_true_eq] at *;omega
 have tot:∀ a b:Pg,(jI a b || jI b a)=true:=fun a b=>by simp only [jI,Bool.or_eq_true,decide_eq_true_eq];omega
 exact mU ((List.mergeSort_perm ys jI).trans hp) hnd ((List.pairwise_mergeSort tr tot ys).imp fun h=>by simpa [jI] using h)
def aK (L:List (Int × ByteArray × Bool)):List Pg:=((L.filter fun x=>x.2.2).map fH).mergeSort jI
def sN (L:List (Int × ByteArray × Bool)) (w:World) (e:Ending) (w':World):Prop:=∃ v,e=.returned v∧Sl Pg.cells 2 w' v (aK L)∧New w v∧Below w.heap.size w w'
attribute [local go_sem ↓] fN
theorem xg (F:Fence) (n:Nat) (h3:F.fn 111) (h4:F.fn 166) (h5:F.fn 219) (h6:F.fn 167) (hro:F.round=none) (hn:3≤n)
  (hso:∀ (m:Nat) (args:Array Value) (W:World) (Q:Ending→World→Prop),Calls Tryz.prog 167 args W Q→CallsIn F m Tryz.prog 167 args W Q)
  {gc gr gm:Nat} {size:Int} {gs:List Nat} {E:Nat→En} (w:World) (h:CaIs w gc gr gm size gs E) (hl:(gs.length:Int)≤size) (h2:size≤256):
  CallsIn F n Tryz.prog 111 #[.pointer (some ⟨gc,0,none⟩)] w (sN (bL gs E) w):=by
 have HSO:=hid hso;clear hso;have h1:1≤n:=by omega
 obtain ⟨i0,hi,hz0,hz1,hz2⟩:=info_parts Bz;have c2:=h.cell 2;have hgm:=h.map.lt;have hgc:=aO h.bc;have H:=hid h;clear h;refine callsIn_of_wp_marks Tryz.func111 rfl h3 ?_ hro;simp only [Tryz.ntmps111,List.size_toArray,List.length_cons,List.length_nil,Nat.reduceAdd,Nat.reduceSub,Array.replicate_succ,Array.replicate_zero,List.push_toArray,List.append_toArray,List.nil_append,List.cons_append];gi_wp2_with (gi_at_call 166;refine (tL F (n - 1) h4 hro _ _).mono ?_;rintro e w' ⟨rfl,rfl⟩);have bO:=Boxed.new w 135 (.slice none 0 0);have bN:=Boxed.new (w.alloc (.cells #[.slice none 0 0] 135)) 124 (.map (some gm));rw [World.size_alloc] at bN;have hB0:Below w.heap.size w ((w.alloc (.cells #[.slice none 0 0] 135)).alloc (.cells #[.map (some gm)] 124)):=((Below.refl _ w).alloc (Nat.le_refl _) _).alloc (by simp) _;have hmap0:MapIs ((w.alloc (.cells #[.slice none 0 0] 135)).alloc (.cells #[.map (some gm)] 124)) gm (gs.map fun g=>((E g).n,g)):=H.out.map.block (hB0.block gm hgm)
 refine wpIn_rangeFunc_ownG hro h1 (gf:=219) (lb:=#[.pointer (some ⟨w.heap.size+1,0,none⟩)]) rfl h5 (enters_of Tryz.func219 (by kernel_rfl) rfl)
  (oc F (n - 1) h5 hro (by omega) (w.heap.size+1) gm _ _ (by simp) bN.cell hmap0) walksK_t walksK_b (Below.refl _ _) (fun _=>rfl)
  (fun pre W=>(∃ v,Boxed W w.heap.size 135 v∧W.ownsRow w.heap.size 134 2 v (ja E pre).length ((ja E pre).flatMap Pg.cells)∧(v=.slice none 0 0↔ja E pre=[]))∧Below w.heap.size w W)
  (fun _ _ _=>False)
  (OwnFrom.and (Go.Own.from (holdsRow_own w.heap.size w.heap.size 135 134 2 (fun pre=>(ja E pre).length) (fun pre=>(ja E pre).flatMap Pg.cells) (fun pre v=>v=.slice none 0 0↔ja E pre=[])) _) (ownFrom_below (Nat.le_refl _) (by simp;omega)))
  (fun _ _ _ _ _ hs _ _=>hs)
  ⟨⟨_,bO.alloc _,World.ownsRow_nil _ _ _ _,by simp [ja]⟩,hB0⟩
  (fun x=>{ tmps:=#[.pointer (some ⟨gc,0,none⟩),undef,.slice none 0 0,.pointer (some ⟨w.heap.size,0,none⟩),nG x,.pointer (some ⟨gc,0,none⟩),.bool false,.pointer (some ⟨gc,0,none⟩),.pointer (some ⟨gc,0,none⟩),.pointer (some ⟨gc,2,none⟩),.map (some gm),.func (.func 219) #[] #[.pointer (some ⟨w.heap.size+1,0,none⟩)],nG x,undef,undef,undef,undef,undef,undef,undef,undef,undef,undef,undef,undef,undef,undef],defers:=[] }) ?assign ?body ?done ?stop
 case assign=> intro l x W K hK;gi_wp2;exact hK
 case body=>
  rintro l pre x W ⟨⟨v,hv,hrow,hnil⟩,hB⟩ hlt;have hc:=hv.cell;have hpl:(ja E pre).length≤pre.length:=by unfold ja;rw [List.length_map];exact List.length_filter_le _ _
  rw [List.length_map] at hlt;have hx:=zQ x;have hxl:=H.out.mem.lt (g:=x.1.2) (List.mem_cons_of_mem _ hx);have d0:=(hB.cell (p:=⟨x.1.2,0,none⟩) hxl).trans (H.out.mem.cell (g:=x.1.2) (List.mem_cons_of_mem _ hx) 0);have d1:=(hB.cell (p:=⟨x.1.2,1,none⟩) hxl).trans (H.out.mem.cell (g:=x.1.2) (List.mem_cons_of_mem _ hx) 1);have d2:=(hB.cell (p:=⟨x.1.2,2,none⟩) hxl).trans (H.out.mem.cell (g:=x.1.2) (List.mem_cons_of_mem _ hx) 2);dsimp only [nG];cases hd:(E x.1.2).d
  ·rw [hd] at d2;have HD:=hid hd;clear hd;gi_wp2;exact ⟨KeepsFrom.refl _ _,(KeepsOthers.refl _).walks,⟨v,hv,by rw [qL pre HD.out];exact hrow,by rw [qL pre HD.out];exact hnil⟩,hB⟩
  ·rw [hd] at d2;have HD:=hid hd;clear hd;have hown:Own Pg.cells 2 134 w.heap.size W v (ja E pre):=hrow;have hgl:=H.out.bc;have hlen:(ja E pre).length<256:=by omega
   obtain ⟨v',w1,hr,ho,hg,hat⟩:=aZ (P:=Tryz.prog) Av 135 (World.ownsRow.drew (hown.alloc (.cells #[.int .i64 (E x.1.2).n,.string (E x.1.2).s] 134)):Own Pg.cells 2 134 w.heap.size ((W.alloc (.cells #[.int .i64 (E x.1.2).n,.string (E x.1.2).s] 134)).drew) v (ja E pre))
    ((Sl.one (⟨(E x.1.2).n,(E x.1.2).s⟩:Pg) (c:=1) rfl Pg.len rfl).keep ((Below.refl _ _).drew)) (by simp [maxLen];omega) (by simp;omega) (by have:=hB.size;simp;omega)
   have hr':(dU #[135,135] 135 #[v,.slice (some ⟨W.heap.size,0,none⟩) 1 1]).run Tryz.prog ((W.alloc (.cells #[.int .i64 (E x.1.2).n,.string (E x.1.2).s] 134)).drew)=.ok v' w1:=hr;clear hr;have hg':(W.alloc (.cells #[.int .i64 (E x.1.2).n,.string (E x.1.2).s] 134)).grownBy w1 v.ownBlock:=⟨hg.os,hg.tape,hg.output,hg.size,hg.block⟩;have ho':w1.ownsRow w.heap.size 134 2 v' ((ja E pre).length+1) ((ja E (pre ++ [x])).flatMap Pg.cells):=by rw [ky pre HD.out];have:=ho;unfold Own at this;rw [List.length_append] at this;exact this
   obtain ⟨g',cap',rfl⟩:=ownsRow_succ ho';obtain ⟨hv1,hv2,hr2,hk2,hb2⟩:=hv.appended (by decide) hrow hB.size (Nat.le_refl _) ho' hg';have hc1:=hv1.cell;have hf1:=hv1.frozen;have HR2:=hid hr2;have HV2:=hid hv2;have HK2:=hid hk2;have HB2:=hid hb2;clear ho hg hat hg' ho' hv1 hv2 hr2 hk2 hb2 hown hgl hrow;have hwl:w.heap.size<W.heap.size:=World.block_lt_of_cell? W _ hc;have hxw:x.1.2<W.heap.size:=Nat.lt_of_lt_of_le hxl hB.size;have hmx:Tryz.prog.follows .mixedOrders=true:=by kernel_rfl
   gi_wp2;gi_region_with_o (fail)
   all_goals
    gi_wp2;exact ⟨HK2.out.from _,HK2.out.walks,⟨_,HV2.out,by rw [ky pre HD.out,List.length_append,← ky pre HD.out];exact HR2.out,by rw [ky pre HD.out];simp⟩,hB.trans HB2.out⟩
 case done=>
  rintro D ys W hD hperm ⟨⟨v,hv,hrow,hnil⟩,hB⟩ hK;have hc:=hv.cell;have hpm:=xj hperm;have hnd:=xc (E:=E) H.out.map.nd;have hnd2:((ja E ys).map (·.n)).Nodup:=((hpm.map _).nodup_iff).2 hnd;have HDL:=hid (show aK (bL gs E)=(ja E ys).mergeSort jI from (se hpm hnd).symm);have hln:(ja E ys).length≤256:=by have h1:=hpm.length_eq;rw [List.length_map] at h1;have h3:=List.length_filter_le (fun x:Int × ByteArray × Bool=>x.2.2) (bL gs E);unfold bL at h3 h1;rw [List.length_map] at h3;omega
  have hDw:w.heap.size≤D:=by simp at hD;omega
  by_cases h0:ja E ys=[]
  ·obtain rfl:=hnil.2 h0;rw [h0] at HDL;clear hnil hrow hpm hnd hnd2 hln h0 hperm;gi_wp2;refine (HSO.out _ _ _ _ (tX none 0 (.func (.func 168) #[] #[]) W)).mono ?_;rintro e w' ⟨rfl,rfl⟩;gi_wp2;refine ⟨by simp,.inl ⟨_,_,rfl,run_takeDeferred hK,?_⟩⟩;refine ⟨_,results_tmp rfl _ _ _,.slice none 0 0,rfl,by rw [HDL.out,List.mergeSort_nil];exact Sl.nil,New.nil,hB.trans (belowK_b (w:=w) (Nat.le_refl _) W D _ _ hDw hK rfl rfl)⟩
  ·obtain ⟨g,cap,rfl⟩:∃ g cap,v=.slice (some ⟨g,0,none⟩) (ja E ys).length cap:=by
    rcases hrow.2 with ⟨_,hh⟩ | ⟨g,cap,_,hh,_⟩
    ·exact absurd (List.eq_nil_of_length_eq_zero hh) h0
    ·exact ⟨g,cap,hh⟩
   have hbg:g≠w.heap.size:=fun e=>(hv.not_row (by decide) hrow) (by simp [Value.ownBlock,e])
   have hDg:D≠g:=fun e=>by
    rcases hrow.2 with ⟨hh,_⟩ | ⟨g',_,_,hh,_,hg',_⟩
    ·cases hh
    ·cases hh;rw [← e,hK] at hg';cases hg'
   have hgw:w.heap.size≤g:=(World.ownsRow.lt hrow g rfl).1;have HSP:=hid (ya w.heap.size g cap (ja E ys) W hrow hnd2 (by omega));clear hnil hpm hnd hnd2 hln h0 hperm;gi_wp2;refine (HSO.out _ _ _ _ HSP.out).mono ?_;rintro e w' ⟨rfl,hsl,hch⟩;have hc':=hch.cell hc (fun e=>hbg e.symm);have hK':=hch.keep hK hDg;have HSL:=hid hsl;have HCH:=hid hch;clear hsl hch hrow hc;gi_wp2;refine ⟨by simp,.inl ⟨_,_,rfl,run_takeDeferred hK',?_⟩⟩;have hB2:=hB.trans (HCH.out.below (B:=w.heap.size) (by have:=hB.size;omega) (fun k e=>by rw [e];exact hgw));refine ⟨_,results_tmp rfl _ _ _,_,rfl,by rw [HDL.out];exact dV HSL.out (Ch.of_grown (S:=fun k=>k=D) (grownBy_putObj' _ D (.deferred none)) (fun k e=>by cases e;rfl)) (fun k e=>by cases e;exact fun e=>hDg e.symm),fun k e=>by cases e;exact hgw,hB2.trans (belowK_b (w:=w) (Nat.le_refl _) w' D _ _ hDw hK' rfl rfl)⟩
 case stop=> rintro D c pre W _ _ h _;exact h.elim
theorem xe {gc gr gm:Nat} {size:Int} {gs:List Nat} {E:Nat→En} (w:World) (h:CaIs w gc gr gm size gs E) (hl:(gs.length:Int)≤size) (h2:size≤256):
  Calls Tryz.prog 111 #[.pointer (some ⟨gc,0,none⟩)] w (sN (bL gs E) w):=
 (callsIn_wide (n:=5)).1 (xg Fence.wide 5 trivial trivial trivial trivial rfl (by omega) (fun _ _ _ _ h=>callsIn_wide.2 h) w h hl h2)
end Go.Proofs.YtdmhbgpejppbkaaGreat
namespace Go.Proofs.YtdmhbgpejppbkaaGreat
open Go.RowKit Go.Maps
abbrev On:=Int × ByteArray × Bool
def Ca (w:World) (F:Nat→Prop) (v:Value) (size:Int) (L:List On):Prop:=
 ∃ gc gr gm gs E,v=.pointer (some ⟨gc,0,none⟩)∧CaIs w gc gr gm size gs E∧L=bL gs E∧(gs.length:Int)≤size∧∀ k ∈ gc :: gm :: gr :: gs,F k
def kp (n:Int) (L:List On):List On:=match L.find? (fun x=>x.1 == n) with | some x=>without n L ++ [x] | none=>L
def eB (n:Int) (L:List On):ByteArray × Bool:=match L.find? (fun x=>x.1 == n) with | some x=>(x.2.1,true) | none=>(⟨#[]⟩,false)
def bx (n:Int) (L:List On):List On:=L.map fun x=>if x.1 == n then (x.1,x.2.1,false) else x
def kv (L:List On):Prop:=(L.map (·.1)).Nodup
section
variable {w w':World} {F S:Nat→Prop} {v:Value} {size:Int} {L:List On}
theorem Ca.ch (h:Ca w F v size L) (hc:Ch S w w') (hd:∀ k,F k→¬ S k):Ca w' F v size L:=by obtain ⟨gc,gr,gm,gs,E,h1,h2,h3,h4,h5⟩:=h;exact ⟨gc,gr,gm,gs,E,h1,h2.ch hc (fun k hk=>hd k (h5 k hk)),h3,h4,h5⟩
theorem Ca.below (h:Ca w F v size L) (hb:Below w.heap.size w w'):Ca w' F v size L:=h.ch (Ch.of_below (S:=fun _=>False) hb) (fun _ _ h=>h)
theorem Ca.len (h:Ca w F v size L):(L.length:Int)≤size:=by obtain ⟨gc,gr,gm,gs,E,h1,h2,h3,h4,h5⟩:=h;rw [h3];unfold bL;rw [List.length_map];exact h4
theorem Ca.kv (h:Ca w F v size L):kv L:=by obtain ⟨gc,gr,gm,gs,E,h1,h2,rfl,h4,h5⟩:=h;have:=h2.map.nd;rw [List.map_map] at this;unfold YtdmhbgpejppbkaaGreat.kv bL;rw [List.map_map];exact this
theorem Ca.ptr (h:Ca w F v size L):∃ a:Addr,v=.pointer (some a):=by obtain ⟨gc,_,_,_,_,h,_⟩:=h;exact ⟨_,h⟩
end
theorem tN {gs:List Nat} {E:Nat→En} {n:Int} {g:Nat} {xs ys:List Nat} (hx:gs=xs ++ g :: ys) (hg:(E g).n=n) (hne:∀ k ∈ xs,(E k).n≠n):(bL gs E).find? (fun x=>x.1 == n)=some (val (E g)):=by
 subst hx;unfold bL;rw [List.map_append,List.map_cons,List.find?_append];have:(xs.map fun g=>val (E g)).find? (fun x=>x.1 == n)=none:=by rw [List.find?_eq_none];intro x hx;obtain ⟨k,hk,rfl⟩:=List.mem_map.1 hx;simpa [val] using hne k hk
 rw [this,Option.none_or,List.find?_cons_of_pos];simpa [val] using hg
theorem tM {gs:List Nat} {E:Nat→En} {n:Int} (hne:∀ k ∈ gs,(E k).n≠n):(bL gs E).find? (fun x=>x.1 == n)=none:=by rw [List.find?_eq_none];intro x hx;obtain ⟨k,hk,rfl⟩:=List.mem_map.1 hx;simpa [val] using hne k hk
theorem oe {gs:List Nat} {E:Nat→En} {n:Int} {g:Nat} {xs ys:List Nat} (hx:gs=xs ++ g :: ys) (hg:(E g).n=n) (hne:∀ k ∈ xs ++ ys,(E k).n≠n):without n (bL gs E)=bL (xs ++ ys) E:=by
 subst hx;unfold bL without
 have hk:∀ l:List Nat,(∀ k ∈ l,(E k).n≠n)→(l.map fun g=>val (E g)).filter (fun x=>!(x.1 == n))=l.map fun g=>val (E g):=fun l hl=>List.filter_eq_self.2 fun x hx=>by
  obtain ⟨k,hk,rfl⟩:=List.mem_map.1 hx;simpa [val] using hl k hk
 rw [List.map_append,List.map_append,List.filter_append,List.map_cons,List.filter_cons,hk xs (fun k hk=>hne k (by simp [hk])),hk ys (fun k hk=>hne k (by simp [hk])),if_neg (by simp [val,hg])]
theorem CaIs.split {w:World} {gc gr gm:Nat} {size:Int} {gs:List Nat} {E:Nat→En} (h:CaIs w gc gr gm size gs E) (n:Int):
  (∃ xs g ys,gs=xs ++ g :: ys∧(E g).n=n∧∀ k ∈ xs ++ ys,(E k).n≠n)∨∀ k ∈ gs,(E k).n≠n:=by
 by_cases hn:∃ g ∈ gs,(E g).n=n
 ·obtain ⟨g,hg,hn⟩:=hn;obtain ⟨xs,ys,rfl⟩:=List.append_of_mem hg;refine .inl ⟨xs,g,ys,rfl,hn,fun k hk e=>?_⟩;have hk':k ∈ xs ++ g :: ys:=by rcases List.mem_append.1 hk with hk | hk <;> simp [hk]
  have:=h.key_inj hk' hg (e.trans hn.symm);subst this;exact h.nd_out.2 (by simp only [List.mem_cons];exact .inr (.inr (.inr hk)))
 ·exact .inr fun k hk e=>hn ⟨k,hk,e⟩
theorem AI {F:Nat→Prop} {v:Value} {size:Int} {L:List On} (n:Int) (w:World) (h:Ca w F v size L) (hw:gE n):
  Calls Tryz.prog 121 #[v,.int .i64 n] w fun e w'=>e=.returned (.tuple #[.string (eB n L).1,.bool (eB n L).2])∧Ca w' F v size (kp n L)∧Ch F w w':=by
 obtain ⟨gc,gr,gm,gs,E,rfl,hc,rfl,hl,hf⟩:=h;rcases hc.split n with ⟨xs,g,ys,rfl,hg,hne⟩ | hne
 ·have hfi:=tN (E:=E) (n:=n) (g:=g) (xs:=xs) (ys:=ys) rfl hg (fun k hk=>hne k (by simp [hk]));have hwo:=oe (E:=E) (n:=n) (g:=g) (xs:=xs) (ys:=ys) rfl hg hne;refine (yJ n w hc hg).mono fun e w' ⟨he,hc',hch⟩=>⟨?_,⟨gc,gr,gm,_,_,rfl,hc',?_,?_,fun k hk=>hf k ?_⟩,hch.mono fun k _ hk=>hf k ?_⟩
  ·rw [he];unfold eB;rw [hfi];rfl
  ·unfold kp;rw [hfi];simp only [];rw [hwo];have hv:∀ k,val (gW (gX E g) g gr k)=val (E k):=fun k=>(eO _ _ _ _).trans (da _ _ _)
   rw [fy hv];unfold bL;simp only [List.map_append,List.map_cons,List.map_nil]
  ·simp only [List.length_append,List.length_cons,List.length_nil] at hl ⊢;omega
  ·simp only [List.mem_cons,List.mem_append,List.not_mem_nil,or_false] at hk ⊢;rcases hk with hk | hk | hk | (hk | hk) | hk <;> simp [hk]
  ·simp only [List.mem_cons,List.mem_append] at hk ⊢;rcases hk with hk | hk | hk | hk <;> simp [hk]
 ·have hfi:=tM hne;refine (Ah n w hc hw hne).mono fun e w' ⟨he,hww⟩=>?_
  subst hww;refine ⟨?_,⟨gc,gr,gm,gs,E,rfl,hc,?_,hl,hf⟩,Ch.refl _ _⟩
  ·rw [he];unfold eB;rw [hfi]
  ·unfold kp;rw [hfi]
theorem AH {F:Nat→Prop} {v:Value} {size:Int} {L:List On} (n:Int) (s:ByteArray) (d:Bool) (w:World) (h:Ca w F v size L) (hw:gE n) (h1:1≤size) (h2:size≤256):
  Calls Tryz.prog 184 #[v,.int .i64 n,.string s,.bool d] w fun e w'=>∃ r F',e=.returned r∧Ca w' F' v size (fZ size n s d L).1∧Sl Pg.cells 2 w' r (fZ size n s d L).2∧New w r∧
   (∀ k,r.ownBlock=some k→¬ F' k)∧(∀ k,F' k→F k∨w.heap.size≤k)∧Ch F w w':=by
 obtain ⟨gc,gr,gm,gs,E,rfl,hc,rfl,hl,hf⟩:=h;refine (zO n s d w hc hw hl h1 h2).mono fun e w' ⟨r,gs2,E2,he,hc',hv,hs,hnw,hd,hsub,hch⟩=>⟨r,fun k=>k ∈ gc :: gm :: gr :: gs2,he,⟨gc,gr,gm,gs2,E2,rfl,hc',hv.symm,?_,fun k hk=>hk⟩,hs,hnw,fun k hk hm=>?_,fun k hk=>?_,hch.mono fun k _ hk=>hf k ?_⟩
 ·have:=congrArg List.length hv;unfold bL fZ at this;rw [List.length_map,List.length_drop] at this;omega
 ·have:=hnw k hk;have b1:=aO hc.bc;have b2:=hc.map.lt;have b3:=hc.mem.lt (g:=gr) (by simp);simp only [List.mem_cons] at hm;rcases hm with hm | hm | hm | hm
  ·omega
  ·omega
  ·omega
  ·exact hd k hk hm
 ·simp only [List.mem_cons] at hk;rcases hk with hk | hk | hk | hk
  ·exact .inl (hf k (by simp [hk]))
  ·exact .inl (hf k (by simp [hk]))
  ·exact .inl (hf k (by simp [hk]))
  ·exact (hsub k hk).imp (fun h=>hf k (by simp [h])) id
 ·simp only [List.mem_cons] at hk ⊢;rcases hk with hk | hk | hk <;> simp [hk]
theorem gV {F:Nat→Prop} {v:Value} {size:Int} {L:List On} (n:Int) (w:World) (h:Ca w F v size L) (hw:gE n):
  Calls Tryz.prog 115 #[v,.int .i64 n] w fun e w'=>e=.returned (.tuple #[])∧Ca w' F v size (without n L)∧Ch F w w':=by
 obtain ⟨gc,gr,gm,gs,E,rfl,hc,rfl,hl,hf⟩:=h;refine (lT n w hc hw).mono fun e w' ⟨he,gs1,E1,hc',hv,_,hsub,hch⟩=>⟨he,⟨gc,gr,gm,gs1,E1,rfl,hc',hv.symm,?_,fun k hk=>?_⟩,hch.mono fun k _ hk=>hf k (List.mem_cons_of_mem _ hk)⟩
 ·have:=congrArg List.length hv;unfold bL without at this;rw [List.length_map] at this;have h3:=List.length_filter_le (fun x:Int × ByteArray × Bool=>!(x.1 == n)) (gs.map fun g=>val (E g));rw [List.length_map] at h3;omega
 ·simp only [List.mem_cons] at hk;rcases hk with hk | hk | hk | hk
  ·exact hf k (by simp [hk])
  ·exact hf k (by simp [hk])
  ·exact hf k (by simp [hk])
  ·exact hf k (by simp [hsub k hk])
theorem mn {F:Nat→Prop} {v:Value} {size:Int} {L:List On} (n:Int) (w:World) (h:Ca w F v size L) (hw:gE n):
  Calls Tryz.prog 114 #[v,.int .i64 n] w fun e w'=>e=.returned (.tuple #[])∧Ca w' F v size (bx n L)∧Ch F w w':=by
 obtain ⟨gc,gr,gm,gs,E,rfl,hc,rfl,hl,hf⟩:=h;rcases hc.split n with ⟨xs,g,ys,hx,hg,hne⟩ | hne
 ·have hgm:g ∈ gs:=by rw [hx];simp
  have hgu:∀ k ∈ gs,(E k).n=n→k=g:=fun k hk e=>hc.key_inj hk hgm (e.trans hg.symm)
  refine (vg n w hc hgm hg).mono fun e w' ⟨he,hc',hch⟩=>⟨he,⟨gc,gr,gm,gs,_,rfl,hc',?_,hl,hf⟩,hch.mono fun k _ hk=>hf k (by rw [hk];simp [hgm])⟩
  unfold bx bL;rw [List.map_map];refine List.map_congr_left fun k hk=>?_
  simp only [Function.comp];unfold setd;by_cases e:k=g
  ·subst e;rw [if_pos rfl,if_pos (by simpa [val] using hg)];rfl
  ·rw [if_neg e,if_neg (by simp only [val,beq_iff_eq];exact fun h=>e (hgu k hk h))]
 ·refine (xq n w hc hw hne).mono fun e w' ⟨he,hww⟩=>?_
  subst hww;refine ⟨he,⟨gc,gr,gm,gs,E,rfl,hc,?_,hl,hf⟩,Ch.refl _ _⟩;unfold bx bL;rw [List.map_map];refine List.map_congr_left fun k hk=>?_
  simp only [Function.comp];rw [if_neg (by simp only [val,beq_iff_eq];exact hne k hk)]
theorem eC {F:Nat→Prop} {v:Value} {size:Int} {L:List On} (w:World) (h:Ca w F v size L) (h1:0≤size):
  Calls Tryz.prog 100 #[v] w fun e w'=>∃ F',e=.returned (.tuple #[])∧Ca w' F' v size []∧(∀ k,F' k→F k∨w.heap.size≤k)∧Ch F w w':=by
 obtain ⟨gc,gr,gm,gs,E,rfl,hc,rfl,hl,hf⟩:=h;refine (qM gc size _ _ w hc.bc).mono fun e w' ⟨he,gr2,gm2,E2,hc',h3,h4,hch⟩=>⟨fun k=>k ∈ [gc,gm2,gr2],he,⟨gc,gr2,gm2,[],E2,rfl,hc',rfl,h1,fun k hk=>hk⟩,fun k hk=>?_,hch.mono fun k _ hk=>hf k (by simp [hk])⟩
 simp only [List.mem_cons,List.not_mem_nil,or_false] at hk;rcases hk with rfl | rfl | rfl
 ·exact .inl (hf _ (by simp))
 ·exact .inr h4
 ·exact .inr h3
theorem xu (n:Int) (w:World):
  Calls Tryz.prog 43 #[.int .i64 n] w fun e w'=>∃ v F,e=.returned v∧Ca w' F v (xW n) []∧(∀ k,F k→w.heap.size≤k)∧Below w.heap.size w w':=
 (zV n w).mono fun e w' ⟨gc,gr,gm,E,he,hc,h1,h2,h3,hb⟩=>⟨_,fun k=>k ∈ [gc,gm,gr],he,⟨gc,gr,gm,[],E,rfl,hc,rfl,by have:=(oo n).1;simp;omega,fun k hk=>hk⟩,fun k hk=>by
   simp only [List.mem_cons,List.not_mem_nil,or_false] at hk;rcases hk with rfl | rfl | rfl <;> omega,hb⟩
theorem gB {F:Nat→Prop} {v:Value} {size:Int} {L:List On} (w:World) (h:Ca w F v size L) (h2:size≤256):
  Calls Tryz.prog 111 #[v] w (sN L w):=by
 obtain ⟨gc,gr,gm,gs,E,rfl,hc,rfl,hl,hf⟩:=h;exact xe w hc hl h2
end Go.Proofs.YtdmhbgpejppbkaaGreat
namespace Go.Proofs.YtdmhbgpejppbkaaGreat
open Go.RowKit Go.Maps
structure Sv where
 head:He
 im:List (Int × By)
structure Pgr where
 d:Dk
 size:Int
 ca:List On
 head:He
 base:Nat
 life:Int
 over:Bool
 lost:Bool
 busy:Bool
 wrote:Bool
 work:He
 saves:List Sv
 mark:Int
 spoilt:Bool
 notes:Option Jn
 marred:Bool
 gd:Nat
 lg:Option (List Fr)
structure PgL where
 gp:Nat
 D:DkM
 vc:Value
 Fc:Nat→Prop
 N:Option (Nat × Nat)
 vs:Value
 gs:List Nat
 G:Option LgM
def dq:Option (Nat × Nat)→Value
 | none=>.pointer none
 | some g=>ai g.1
def bn:Option LgM→Value
 | none=>.pointer none
 | some M=>ai M.gl
def bX (L:PgL) (P:Pgr):Obj:=.cells #[ai L.D.gd,L.vc,.int .i64 P.head.mode,.int .i64 P.head.pages,.int .i64 P.head.trunk,.int .i64 P.head.spare,.int .i64 P.head.root,.int .u64 P.head.change,.int .i64 P.base,bn L.G,.int .i64 P.life,.bool P.over,.bool P.lost,.bool P.busy,.bool P.wrote,
 .int .i64 P.work.mode,.int .i64 P.work.pages,.int .i64 P.work.trunk,.int .i64 P.work.spare,.int .i64 P.work.root,.int .u64 P.work.change,L.vs,.int .i64 P.mark,.bool P.spoilt,dq L.N,.bool P.marred] 78 (0,0)
def gZ (D:DkM) (d:Dk):Ob:=⟨D.F,fun w=>DkIs w D d,fun h hc hn=>h.ch hc hn,fun h _ hk=>h.lt hk⟩
theorem Ca.lt {w:World} {F:Nat→Prop} {v:Value} {size:Int} {L:List On} (h:Ca w F v size L):∃ G:List Nat,(∀ k ∈ G,k<w.heap.size∧F k)∧Ca w (fun k=>k ∈ G) v size L:=by
 obtain ⟨gc,gr,gm,gs,E,h1,h2,h3,h4,h5⟩:=h;refine ⟨gc :: gm :: gr :: gs,fun k hk=>⟨?_,h5 k hk⟩,gc,gr,gm,gs,E,h1,h2,h3,h4,fun k hk=>hk⟩;have b1:=aO h2.bc;have b2:=h2.map.lt;simp only [List.mem_cons] at hk;rcases hk with rfl | rfl | hk
 ·exact b1
 ·exact b2
 ·exact h2.mem.lt (g:=k) (by simpa using hk)
def hO (F:Nat→Prop) (v:Value) (size:Int) (L:List On):Ob:=⟨F,fun w=>Ca w F v size L∧∀ k,F k→k<w.heap.size,fun h hc hn=>⟨h.1.ch hc hn,fun k hk=>Nat.lt_of_lt_of_le (h.2 k hk) hc.size⟩,fun h k hk=>h.2 k hk⟩
def qw:Option (Nat × Nat)→Nat→Prop
 | none,_=>False
 | some g,k=>k=g.1∨k=g.2
def xH (w:World) (gd:Nat) (N:Option (Nat × Nat)) (j:Option Jn):Prop:=(N=none∧j=none)∨∃ g x,N=some g∧j=some x∧JnIs w gd g.1 g.2 x
def gY (gd:Nat) (N:Option (Nat × Nat)) (j:Option Jn):Ob:=⟨qw N,fun w=>xH w gd N j,fun h hc hn=>by
 rcases h with ⟨h1,h2⟩ | ⟨g,x,rfl,rfl,h⟩
 ·exact .inl ⟨h1,h2⟩
 ·exact .inr ⟨g,x,rfl,rfl,h.ch hc (hn _ (.inl rfl)) (hn _ (.inr rfl))⟩,fun h k hk=>by
 rcases h with ⟨rfl,h2⟩ | ⟨g,x,rfl,rfl,h⟩
 ·exact hk.elim
 ·rcases hk with rfl | rfl
  ·exact ab h.blk
  ·exact h.map.lt⟩
def mE:Option LgM→Nat→Prop
 | none,_=>False
 | some M,k=>iA M k
def xG (w:World) (gd:Nat) (G:Option LgM) (l:Option (List Fr)):Prop:=(G=none∧l=none)∨∃ M x,G=some M∧l=some x∧LgIs w gd M x
def qi (gd:Nat) (G:Option LgM) (l:Option (List Fr)):Ob:=⟨mE G,fun w=>xG w gd G l,fun h hc hn=>by
 rcases h with ⟨h1,h2⟩ | ⟨M,x,rfl,rfl,h⟩
 ·exact .inl ⟨h1,h2⟩
 ·exact .inr ⟨M,x,rfl,rfl,h.ch hc hn⟩,fun h k hk=>by
 rcases h with ⟨rfl,h2⟩ | ⟨M,x,rfl,rfl,h⟩
 ·exact hk.elim
 ·exact h.lt hk⟩
def stL (n:By):DataW Unit:=.lit (.string n)
def xJ (n:By):Value:=.string (aj n)
def zu (v:Value):Option (DataW Unit × List MemPlace):=match v with
 | .string b=>some (.lit (.string (bs b)),[])
 | _=>none
theorem pF {v:Value} {b:By} {ps:List MemPlace} (h:zu v=some (.lit (.string b),ps)):v=xJ b:=by
 unfold zu at h
 split at h
 ·simp only [Option.some.injEq,Prod.mk.injEq,DataW.lit.injEq,Lit.string.injEq] at h;rw [← h.1];unfold xJ;rw [eL]
 ·cases h
theorem xM:MpT gE 102 3 9 cq ny stL xJ (.string ⟨#[]⟩) zu where
 law:=bY
 und:=Tryz.underlying102
 key:=fun _ h=>dY h
 inj:=fun a b h=>by injection h
 lit:=fun _=>trivial
 rel:=fun b=>by unfold zu xJ stL;simp only [aR]
 inv:=fun v b ps h=>pF h
 zero:=fun w=>by kernel_rfl
 zrel:=⟨stL [],rfl,fun v ps h=>(pF h).trans rfl⟩
abbrev fu (w:World) (gi:Nat) (K:List (Int × By)):Prop:=MpIs 3 zu cq stL w gi K
def mO (p:He × Nat):List Value:=[.int .i64 p.1.mode,.int .i64 p.1.pages,.int .i64 p.1.trunk,.int .i64 p.1.spare,.int .i64 p.1.root,.int .u64 p.1.change,.map (some p.2)]
def kk (v:Value) (gs:List Nat) (k:Nat):Prop:=v.ownBlock=some k∨k ∈ gs
structure SvIs (w:World) (v:Value) (gs:List Nat) (l:List Sv):Prop where
 row:Own mO 7 114 0 w v ((l.map (·.head)).zip gs)
 len:gs.length=l.length
 im:∀ p ∈ gs.zip l,fu w p.1 p.2.im
 nd:gs.Nodup
 ne:∀ k ∈ gs,v.ownBlock≠some k
theorem SvIs.lt {w:World} {v:Value} {gs:List Nat} {l:List Sv} (h:SvIs w v gs l) {k:Nat} (hk:kk v gs k):k<w.heap.size:=by
 rcases hk with hk | hk
 ·exact (h.row.lt k hk).2
 ·obtain ⟨i,hi,rfl⟩:=List.getElem_of_mem hk;have:=h.len;exact (h.im (gs[i],l[i]) (by rw [← List.getElem_zip (h:=by rw [List.length_zip];omega)];exact List.getElem_mem _)).lt
theorem SvIs.ch {S:Nat→Prop} {w w':World} {v:Value} {gs:List Nat} {l:List Sv} (h:SvIs w v gs l) (hc:Ch S w w') (hn:∀ k,kk v gs k→¬ S k):SvIs w' v gs l:=
 ⟨h.row.ch hc fun k hk=>hn k (.inl hk),h.len,fun p hp=>(h.im p hp).ch hc (hn _ (.inr (List.of_mem_zip hp).1)),h.nd,h.ne⟩
def gy (v:Value) (gs:List Nat) (l:List Sv):Ob:=⟨kk v gs,fun w=>SvIs w v gs l,fun h hc hn=>h.ch hc hn,fun h _ hk=>h.lt hk⟩
theorem SvIs.nil (w:World):SvIs w (.slice none 0 0) [] []:=⟨Own.nil,rfl,fun _ h=>absurd h List.not_mem_nil,List.nodup_nil,fun _ h=>absurd h List.not_mem_nil⟩
def PgL.obs (L:PgL) (P:Pgr):List Ob:=[Ob.blk L.gp (bX L P),gZ L.D P.d,hO L.Fc L.vc P.size P.ca,gY L.D.gd L.N P.notes,gy L.vs L.gs P.saves,qi L.D.gd L.G P.lg]
def PgL.F (L:PgL) (k:Nat):Prop:=k=L.gp∨L.D.F k∨L.Fc k∨qw L.N k∨kk L.vs L.gs k∨mE L.G k
structure Pgr.Ok (P:Pgr):Prop where
 s1:1≤P.size
 s2:P.size≤256
 base:P.base≤4096
 hp:P.head.pages≤4096
 wp:P.work.pages≤4096
 nos:P.saves.length≤16
structure PgIs (w:World) (L:PgL) (P:Pgr):Prop where
 sep:Sep w (L.obs P)
 ok:P.Ok
 gd:L.D.gd=P.gd
section
variable {w w':World} {L:PgL} {P P':Pgr}
theorem PgIs.blk (h:PgIs w L P):w.heap[L.gp]?=some (bX L P):=h.sep.1 (Ob.blk L.gp (bX L P)) (by simp [PgL.obs])
theorem PgIs.dk (h:PgIs w L P):DkIs w L.D P.d:=h.sep.1 (gZ L.D P.d) (by simp [PgL.obs])
theorem PgIs.ca (h:PgIs w L P):Ca w L.Fc L.vc P.size P.ca:=(h.sep.1 (hO L.Fc L.vc P.size P.ca) (by simp [PgL.obs])).1
theorem PgIs.jn (h:PgIs w L P):xH w L.D.gd L.N P.notes:=h.sep.1 (gY L.D.gd L.N P.notes) (by simp [PgL.obs])
theorem PgIs.sv (h:PgIs w L P):SvIs w L.vs L.gs P.saves:=h.sep.1 (gy L.vs L.gs P.saves) (by simp [PgL.obs])
theorem PgIs.lgo (h:PgIs w L P):xG w L.D.gd L.G P.lg:=h.sep.1 (qi L.D.gd L.G P.lg) (by simp [PgL.obs])
theorem PgIs.lt (h:PgIs w L P) {k:Nat} (hk:L.F k):k<w.heap.size:=by
 have h1:=h.sep.1;simp only [PgL.obs,List.forall_mem_cons] at h1;obtain ⟨a1,a2,a3,a4,a5,a6,-⟩:=h1;rcases hk with rfl | hk | hk | hk | hk | hk
 ·exact ab h.blk
 ·exact (gZ L.D P.d).lt a2 k hk
 ·exact (hO L.Fc L.vc P.size P.ca).lt a3 k hk
 ·exact (gY L.D.gd L.N P.notes).lt a4 k hk
 ·exact (gy L.vs L.gs P.saves).lt a5 k hk
 ·exact (qi L.D.gd L.G P.lg).lt a6 k hk
theorem PgIs.ch {S:Nat→Prop} (h:PgIs w L P) (hc:Ch S w w') (hn:∀ k,L.F k→¬ S k):PgIs w' L P:=
 ⟨h.sep.keep hc fun o ho k hk=>hn k (by
   simp only [PgL.obs,List.mem_cons,List.not_mem_nil,or_false] at ho;rcases ho with rfl | rfl | rfl | rfl | rfl | rfl
   ·exact .inl hk
   ·exact .inr (.inl hk)
   ·exact .inr (.inr (.inl hk))
   ·exact .inr (.inr (.inr (.inl hk)))
   ·exact .inr (.inr (.inr (.inr (.inl hk))))
   ·exact .inr (.inr (.inr (.inr (.inr hk))))),h.ok,h.gd⟩
theorem PgIs.below (h:PgIs w L P) (hb:Below w.heap.size w w'):PgIs w' L P:=h.ch (S:=fun _=>False) (Ch.of_below hb) fun _ _ h=>h
structure Apart (L:PgL):Prop where
 pd:¬ L.D.F L.gp
 pc:¬ L.Fc L.gp
 pj:¬ qw L.N L.gp
 ps:¬ kk L.vs L.gs L.gp
 dc:∀ k,L.D.F k→¬ L.Fc k
 dj:∀ k,L.D.F k→¬ qw L.N k
 ds:∀ k,L.D.F k→¬ kk L.vs L.gs k
 cj:∀ k,L.Fc k→¬ qw L.N k
 cs:∀ k,L.Fc k→¬ kk L.vs L.gs k
 js:∀ k,qw L.N k→¬ kk L.vs L.gs k
 pl:¬ mE L.G L.gp
 dl:∀ k,L.D.F k→¬ mE L.G k
 cl:∀ k,L.Fc k→¬ mE L.G k
 jl:∀ k,qw L.N k→¬ mE L.G k
 sl:∀ k,kk L.vs L.gs k→¬ mE L.G k
theorem PgIs.apart (h:PgIs w L P):Apart L:=by have h2:=h.sep.2;simp only [PgL.obs,List.pairwise_cons,List.forall_mem_cons] at h2;obtain ⟨⟨a1,a2,a3,a4,a5,-⟩,⟨b2,b3,b4,b5,-⟩,⟨c3,c4,c5,-⟩,⟨d4,d5,-⟩,⟨f5,-⟩,-⟩:=h2;exact ⟨a1 _ rfl,a2 _ rfl,a3 _ rfl,a4 _ rfl,b2,b3,b4,c3,c4,d4,a5 _ rfl,b5,c5,d5,f5⟩
theorem PgIs.setBlk (h:PgIs w L P) (hc:Ch (fun k=>k=L.gp) w w') (hb:w'.heap[L.gp]?=some (bX L P')) (h1:P'.d=P.d) (h2:P'.size=P.size) (h3:P'.ca=P.ca) (h4:P'.notes=P.notes) (h5:P'.saves=P.saves) (hok:P'.Ok) (hgd:P'.gd=P.gd:=by rfl) (hlg:P'.lg=P.lg:=by rfl):PgIs w' L P':=by refine ⟨?_,hok,h.gd.trans hgd.symm⟩;have:=h.sep;unfold PgL.obs at this ⊢;rw [h1,h2,h3,h4,h5,hlg];exact this.upd (l1:=[]) (b:=Ob.blk L.gp (bX L P')) hc (fun k hk=>hk) hb (fun k hk=>.inl hk)
theorem PgIs.nolg (h:PgIs w L P) (hl:P.lg=none):L.G=none:=by
 rcases h.lgo with ⟨h1,-⟩ | ⟨M,x,-,h2,-⟩
 ·exact h1
 ·rw [hl] at h2;cases h2
theorem PgIs.haslg (h:PgIs w L P) {l:List Fr} (hl:P.lg=some l):∃ M,L.G=some M∧LgIs w L.D.gd M l:=by
 rcases h.lgo with ⟨-,h2⟩ | ⟨M,x,h1,h2,h3⟩
 ·rw [hl] at h2;cases h2
 ·rw [hl] at h2;injection h2 with e;subst e;exact ⟨M,h1,h3⟩
theorem PgIs.setDk (h:PgIs w L P) {S:Nat→Prop} {D:DkM} {d:Dk} (hg:D.gd=L.D.gd) (hd:DkIs w' D d) (hF:∀ k,D.F k→L.D.F k∨w.heap.size≤k) (hc:Ch S w w') (hS:∀ k,S k→L.D.F k):PgIs w' { L with D:=D } { P with d:=d }:=by
 refine ⟨?_,⟨h.ok.s1,h.ok.s2,h.ok.base,h.ok.hp,h.ok.wp,h.ok.nos⟩,hg.trans h.gd⟩;have:=h.sep.upd (l1:=[Ob.blk L.gp (bX L P)]) (a:=gZ L.D P.d) (b:=gZ D d) hc hS hd hF;unfold PgL.obs;have e:bX { L with D:=D } { P with d:=d }=bX L P:=by unfold bX;simp only [hg]
 rw [e];simp only [hg];exact this
theorem PgIs.setCa (h:PgIs w L P) {S F:Nat→Prop} {ca:List On} (hd:Ca w' F L.vc P.size ca) (hlt:∀ k,F k→k<w'.heap.size) (hF:∀ k,F k→L.Fc k∨w.heap.size≤k) (hc:Ch S w w') (hS:∀ k,S k→L.Fc k):PgIs w' { L with Fc:=F } { P with ca:=ca }:=by refine ⟨?_,⟨h.ok.s1,h.ok.s2,h.ok.base,h.ok.hp,h.ok.wp,h.ok.nos⟩,h.gd⟩;exact h.sep.upd (l1:=[Ob.blk L.gp (bX L P),gZ L.D P.d]) (a:=hO L.Fc L.vc P.size P.ca) (b:=hO F L.vc P.size ca) hc hS ⟨hd,hlt⟩ hF
theorem PgIs.setSv (h:PgIs w L P) {S:Nat→Prop} {gs:List Nat} {sv:List Sv} (hd:SvIs w' L.vs gs sv) (hF:∀ k,kk L.vs gs k→kk L.vs L.gs k∨w.heap.size≤k) (hn:sv.length≤16) (hc:Ch S w w') (hS:∀ k,S k→kk L.vs L.gs k):PgIs w' { L with gs:=gs } { P with saves:=sv }:=by refine ⟨?_,⟨h.ok.s1,h.ok.s2,h.ok.base,h.ok.hp,h.ok.wp,hn⟩,h.gd⟩;exact h.sep.upd (l1:=[Ob.blk L.gp (bX L P),gZ L.D P.d,hO L.Fc L.vc P.size P.ca,gY L.D.gd L.N P.notes]) (a:=gy L.vs L.gs P.saves) (b:=gy L.vs gs sv) hc hS hd hF
end
theorem zx {w:World} {L:PgL} {P:Pgr} (h:w.heap[L.gp]?=some (bX L P)):L.gp<w.heap.size∧(∀ k,w.frozen? ⟨L.gp,k,none⟩=false)∧w.cell? ⟨L.gp,0,none⟩=some (ai L.D.gd)∧w.cell? ⟨L.gp,1,none⟩=some L.vc∧w.cell? ⟨L.gp,9,none⟩=some (bn L.G):=
 ⟨ab h,ah h,aa h 0,aa h 1,aa h 9⟩
structure PgC (w:World) (L:PgL) (P:Pgr):Prop where
 lt:L.gp<w.heap.size
 fz:∀ k,w.frozen? ⟨L.gp,k,none⟩=false
 c0:w.cell? ⟨L.gp,0,none⟩=some (ai L.D.gd)
 c1:w.cell? ⟨L.gp,1,none⟩=some (L.vc)
 c2:w.cell? ⟨L.gp,2,none⟩=some (.int .i64 P.head.mode)
 c3:w.cell? ⟨L.gp,3,none⟩=some (.int .i64 P.head.pages)
 c4:w.cell? ⟨L.gp,4,none⟩=some (.int .i64 P.head.trunk)
 c5:w.cell? ⟨L.gp,5,none⟩=some (.int .i64 P.head.spare)
 c6:w.cell? ⟨L.gp,6,none⟩=some (.int .i64 P.head.root)
 c7:w.cell? ⟨L.gp,7,none⟩=some (.int .u64 P.head.change)
 c8:w.cell? ⟨L.gp,8,none⟩=some (.int .i64 P.base)
 c9:w.cell? ⟨L.gp,9,none⟩=some (bn L.G)
 c10:w.cell? ⟨L.gp,10,none⟩=some (.int .i64 P.life)
 c11:w.cell? ⟨L.gp,11,none⟩=some (.bool P.over)
 c12:w.cell? ⟨L.gp,12,none⟩=some (.bool P.lost)
 c13:w.cell? ⟨L.gp,13,none⟩=some (.bool P.busy)
 c14:w.cell? ⟨L.gp,14,none⟩=some (.bool P.wrote)
 c15:w.cell? ⟨L.gp,15,none⟩=some (.int .i64 P.work.mode)
 c16:w.cell? ⟨L.gp,16,none⟩=some (.int .i64 P.work.pages)
 c17:w.cell? ⟨L.gp,17,none⟩=some (.int .i64 P.work.trunk)
 c18:w.cell? ⟨L.gp,18,none⟩=some (.int .i64 P.work.spare)
 c19:w.cell? ⟨L.gp,19,none⟩=some (.int .i64 P.work.root)
 c20:w.cell? ⟨L.gp,20,none⟩=some (.int .u64 P.work.change)
 c21:w.cell? ⟨L.gp,21,none⟩=some (L.vs)
 c22:w.cell? ⟨L.gp,22,none⟩=some (.int .i64 P.mark)
 c23:w.cell? ⟨L.gp,23,none⟩=some (.bool P.spoilt)
 c24:w.cell? ⟨L.gp,24,none⟩=some (dq L.N)
 c25:w.cell? ⟨L.gp,25,none⟩=some (.bool P.marred)
theorem ag {w:World} {L:PgL} {P:Pgr} (h:w.heap[L.gp]?=some (bX L P)):PgC w L P:=
 ⟨ab h,ah h,aa h 0,aa h 1,aa h 2,aa h 3,aa h 4,aa h 5,aa h 6,aa h 7,aa h 8,aa h 9,aa h 10,aa h 11,aa h 12,aa h 13,aa h 14,aa h 15,aa h 16,aa h 17,aa h 18,aa h 19,aa h 20,aa h 21,aa h 22,aa h 23,aa h 24,aa h 25⟩
end Go.Proofs.YtdmhbgpejppbkaaGreat
namespace Go.Proofs.YtdmhbgpejppbkaaGreat
open Go.Lib (hid)
open Go.RowKit Go.Maps
section
variable {w w':World} {L:PgL} {P P':Pgr}
theorem PgIs.bare (h:PgIs w L P) (hc:Ch (fun k=>k=L.gp) w w') (hb:w'.heap[L.gp]?=some (bX { L with N:=none,vs:=.slice none 0 0,gs:=[] } P')) (h1:P'.d=P.d) (h2:P'.size=P.size) (h3:P'.ca=P.ca) (h4:P'.notes=none) (h5:P'.saves=[]) (hok:P'.Ok) (hgd:P'.gd=P.gd:=by rfl) (hlg:P'.lg=P.lg:=by rfl):PgIs w' { L with N:=none,vs:=.slice none 0 0,gs:=[] } P':=by refine ⟨?_,hok,h.gd.trans hgd.symm⟩;have a1:=h.sep.as (l1:=[Ob.blk L.gp (bX L P),gZ L.D P.d,hO L.Fc L.vc P.size P.ca]) (a:=gY L.D.gd L.N P.notes) (b:=gY L.D.gd none none) (.inl ⟨rfl,rfl⟩) (fun k hk=>hk.elim);have a2:=a1.as (l1:=[Ob.blk L.gp (bX L P),gZ L.D P.d,hO L.Fc L.vc P.size P.ca,gY L.D.gd none none]) (a:=gy L.vs L.gs P.saves) (b:=gy (.slice none 0 0) [] []) (SvIs.nil w) (fun k hk=>by rcases hk with hk | hk;cases hk;cases hk);have a3:=a2.upd (l1:=[]) (b:=Ob.blk L.gp (bX { L with N:=none,vs:=.slice none 0 0,gs:=[] } P')) hc (fun k hk=>hk) hb (fun k hk=>.inl hk);unfold PgL.obs;rw [h1,h2,h3,h4,h5,hlg];exact a3
end
def Pgr.ended (P:Pgr):Pgr:={ P with busy:=false,wrote:=false,saves:=[],notes:=none,marred:=false,spoilt:=false }
def PgL.bare (L:PgL):PgL:={ L with N:=none,vs:=.slice none 0 0,gs:=[] }
theorem gg (w:World) {L:PgL} {P:Pgr} (h:PgIs w L P):
  Calls Tryz.prog 91 #[ai L.gp] w fun e w'=>e=.returned (.tuple #[])∧PgIs w' L.bare P.ended∧Ch (fun k=>k=L.gp) w w':=by
 have HH:=hid h;have hl:=(ag h.blk).lt;have hfz:=(ag h.blk).fz;have c13:=(ag h.blk).c13;have c14:=(ag h.blk).c14;have c21:=(ag h.blk).c21;have c23:=(ag h.blk).c23;have c24:=(ag h.blk).c24;have c25:=(ag h.blk).c25;have z13:=hfz 13;have z14:=hfz 14;have z21:=hfz 21;have z23:=hfz 23;have z24:=hfz 24;have z25:=hfz 25;clear h hfz;unfold ai;go_enter Tryz.func91,Tryz.ntmps91;go_wp2_with fail
 have hc:Ch (fun k=>k=L.gp) w ((((((w.setCell ⟨L.gp,13,none⟩ (.bool false)).setCell ⟨L.gp,14,none⟩ (.bool false)).setCell ⟨L.gp,21,none⟩ (.slice none 0 0)).setCell ⟨L.gp,24,none⟩ (.pointer none)).setCell ⟨L.gp,25,none⟩ (.bool false)).setCell ⟨L.gp,23,none⟩ (.bool false)):=
  ((((((Ch.refl (fun k=>k=L.gp) w).setCell (p:=⟨L.gp,13,none⟩) rfl _).setCell (p:=⟨L.gp,14,none⟩) rfl _).setCell (p:=⟨L.gp,21,none⟩) rfl _).setCell (p:=⟨L.gp,24,none⟩) rfl _).setCell (p:=⟨L.gp,25,none⟩) rfl _).setCell (p:=⟨L.gp,23,none⟩) rfl _
 refine bodyPost_end (results_none rfl _ _ _) rfl ⟨rfl,HH.out.bare hc ?_ rfl rfl rfl rfl rfl ⟨HH.out.ok.s1,HH.out.ok.s2,HH.out.ok.base,HH.out.ok.hp,HH.out.ok.wp,Nat.zero_le _⟩,hc⟩;exact ae (ae (ae (ae (ae (ae HH.out.blk 13 (.bool false)) 14 (.bool false)) 21 (.slice none 0 0)) 24 (.pointer none)) 25 (.bool false)) 23 (.bool false)
theorem kO (w:World) {L:PgL} {P:Pgr} (h:PgIs w L P):
  Calls Tryz.prog 52 #[ai L.gp] w fun e w'=>e=.returned (fJ (if P.busy then P.work else P.head))∧Below w.heap.size w w':=by
 have hC:=ag h.blk;have hl:=hC.lt;have c13:=hC.c13;cases hb:P.busy
 ·rw [hb] at c13;have c2:=hC.c2;have c3:=hC.c3;have c4:=hC.c4;have c5:=hC.c5;have c6:=hC.c6;have c7:=hC.c7;clear hC h hb;generalize P.head=H at *;unfold ai;go_enter Tryz.func52,Tryz.ntmps52;go_wp2_with fail;have hg:(w.alloc (dP H)).heap[w.heap.size]?=some (dP H):=af rfl;obtain ⟨q0,q1,q2,q3,q4,q5,q6⟩:=du hg;have HB:=hid ((Below.refl w.heap.size w).alloc (Nat.le_refl _) (dP H));clear hg;change bodyPost _ _ _ _ _ (w.alloc (dP H));generalize w.alloc (dP H)=w1 at *;exact bodyPost_ret (v:=fJ H) (by simp [results,Tryz.results52,fJ,lN,go_sem,q0,q1,q2,q3,q4,q5]) rfl ⟨rfl,HB.out⟩
 ·rw [hb] at c13;have c15:=hC.c15;have c16:=hC.c16;have c17:=hC.c17;have c18:=hC.c18;have c19:=hC.c19;have c20:=hC.c20;clear hC h hb;generalize P.work=H at *;unfold ai;go_enter Tryz.func52,Tryz.ntmps52;go_wp2_with fail;have hg:(w.alloc (dP H)).heap[w.heap.size]?=some (dP H):=af rfl;obtain ⟨q0,q1,q2,q3,q4,q5,q6⟩:=du hg;have HB:=hid ((Below.refl w.heap.size w).alloc (Nat.le_refl _) (dP H));clear hg;change bodyPost _ _ _ _ _ (w.alloc (dP H));generalize w.alloc (dP H)=w1 at *;exact bodyPost_ret (v:=fJ H) (by simp [results,Tryz.results52,fJ,lN,go_sem,q0,q1,q2,q3,q4,q5]) rfl ⟨rfl,HB.out⟩
def bK:By:=List.replicate 232 0
theorem kR (w:World):Calls Tryz.prog 94 #[] w fun e w'=>e=.returned (.string (aj bK))∧Below w.heap.size w w':=by have HR:=hid (fun (w:World)=>dL 232 w (by decide));go_enter Tryz.func94,Tryz.ntmps94;go_wp2_with fail;refine (HR.out w).mono ?_;rintro e w1 ⟨rfl,hb⟩;have HB:=hid hb;clear hb;go_wp2_with fail;go_ret;exact ⟨rfl,HB.out⟩
end Go.Proofs.YtdmhbgpejppbkaaGreat
namespace Go.Proofs.YtdmhbgpejppbkaaGreat
open Go.Lib (hid)
open Go.RowKit Go.Maps
def PTo (w:World) (L:PgL) (P:Pgr) (w':World):Prop:=∃ L',L'.gp=L.gp∧PgIs w' L' P∧(∀ k,L'.F k→L.F k∨w.heap.size≤k)∧Ch L.F w w'
section
variable {w w1 w':World} {L L1:PgL} {P:Pgr}
theorem PTo.pre (h:PTo w1 L P w') (hb:Below w.heap.size w w1):PTo w L P w':=by obtain ⟨L',h1,h2,h3,h4⟩:=h;exact ⟨L',h1,h2,fun k hk=>(h3 k hk).imp id fun e=>Nat.le_trans hb.size e,(Ch.of_below hb).trans h4⟩
theorem PTo.post (h:PTo w L P w1) (hb:Below w1.heap.size w1 w'):PTo w L P w':=by obtain ⟨L',h1,h2,h3,h4⟩:=h;exact ⟨L',h1,h2.below hb,h3,h4.trans (Ch.of_below hb)⟩
theorem PTo.and (h1:L1.gp=L.gp) (hF:∀ k,L1.F k→L.F k∨w.heap.size≤k) (hc:Ch L.F w w1) (h:PTo w1 L1 P w'):PTo w L P w':=by
 obtain ⟨L',e1,e2,e3,e4⟩:=h;refine ⟨L',e1.trans h1,e2,fun k hk=>?_,hc.then e4 hF⟩;rcases e3 k hk with e | e
 ·exact hF k e
 ·exact .inr (Nat.le_trans hc.size e)
theorem PTo.refl (h:PgIs w L P):PTo w L P w:=⟨L,rfl,h,fun _ hk=>.inl hk,Ch.refl _ _⟩
theorem PTo.dk (h:PgIs w L P) {d:Dk} (hd:DkTo w L.D d w'):PTo w L { P with d:=d } w':=by
 obtain ⟨D,e1,e2,e3,e4⟩:=hd;refine ⟨{ L with D:=D },rfl,h.setDk e1 e2 e3 e4 fun _ hk=>hk,fun k hk=>?_,e4.mono fun k _ hk=>.inr (.inl hk)⟩;rcases hk with hk | hk | hk
 ·exact .inl (.inl hk)
 ·exact (e3 k hk).imp (fun e=>.inr (.inl e)) id
 ·exact .inl (.inr (.inr hk))
end
theorem PgIs.newJn {w w1 w2:World} {L:PgL} {P P':Pgr} (h:PgIs w L P) (hb:Below w.heap.size w w1) {g:Nat × Nat} {x:Jn} (hx:JnIs w1 L.D.gd g.1 g.2 x) (h1:w.heap.size≤g.1) (h2:w.heap.size≤g.2) (hc:Ch (fun k=>k=L.gp) w1 w2)
  (hB:w2.heap[L.gp]?=some (bX { L with N:=some g } P')) (hd:P'.d=P.d) (hs:P'.size=P.size) (hca:P'.ca=P.ca) (hn:P'.notes=some x) (hv:P'.saves=P.saves) (hok:P'.Ok) (hgd:P'.gd=P.gd:=by rfl) (hlg:P'.lg=P.lg:=by rfl):PTo w L P' w2:=by
 have a1:=h.sep.upd (l1:=[Ob.blk L.gp (bX L P),gZ L.D P.d,hO L.Fc L.vc P.size P.ca]) (a:=gY L.D.gd L.N P.notes) (b:=gY L.D.gd (some g) (some x)) (Ch.of_below (S:=fun _=>False) hb) (fun _ h=>h.elim) (.inr ⟨g,x,rfl,rfl,hx⟩) (fun k hk=>by
  rcases hk with rfl | rfl
  ·exact .inr h1
  ·exact .inr h2)
 have a2:=a1.upd (l1:=[]) (b:=Ob.blk L.gp (bX { L with N:=some g } P')) hc (fun k hk=>hk) hB (fun k hk=>.inl hk);refine ⟨{ L with N:=some g },rfl,⟨?_,hok,h.gd.trans hgd.symm⟩,fun k hk=>?_,(Ch.of_below hb).trans (hc.mono fun k _ e=>.inl e)⟩
 ·unfold PgL.obs;rw [hd,hs,hca,hn,hv,hlg];exact a2
 ·rcases hk with hk | hk | hk | hk | hk
  ·exact .inl (.inl hk)
  ·exact .inl (.inr (.inl hk))
  ·exact .inl (.inr (.inr (.inl hk)))
  ·rcases hk with rfl | rfl
   ·exact .inr h1
   ·exact .inr h2
  ·exact .inl (.inr (.inr (.inr (.inr hk))))
def Pgr.note (P:Pgr):Pgr:=match P.notes with
 | some _=>P
 | none=>{ P with notes:=some ⟨P.base,P.head.change+1,0,0,[]⟩ }
theorem ev (w:World) {L:PgL} {P:Pgr} (h:PgIs w L P) (hj:P.notes=none→P.d.file aQ=none) (hc:P.head.change+1<18446744073709551616):
  Calls Tryz.prog 141 #[ai L.gp] w fun e w'=>e=.returned (.int .i64 0)∧PTo w L P.note w':=by
 have HH:=hid h;have hC:=ag h.blk;have hl:=hC.lt;have z24:=hC.fz 24;have c24:=hC.c24;rcases h.jn with ⟨hN,hnn⟩ | ⟨g,x,hN,hnn,hx⟩
 ·have HST:=hid (fun (w':World) (hd:DkIs w' L.D P.d)=>sk P.base (P.head.change+1) w' hd (hj hnn) h.ok.base hc);have HE:=hid (show P.note={ P with notes:=some ⟨P.base,P.head.change+1,0,0,[]⟩ } by unfold Pgr.note;rw [hnn]);have hwr:IntKind.u64.wrap ((P.head.change:Int)+1)=(P.head.change:Int)+1:=IntWalk.u64_in _ (by omega);rw [show ((P.head.change+1:Nat):Int)=(P.head.change:Int)+1 by omega] at HST;have c0:=hC.c0;have c7:=hC.c7;have c8:=hC.c8;rw [hN] at c24;have HNN:=hid (And.intro hN hnn);unfold dq ai at *;clear h hC hj hc hN hnn;go_enter Tryz.func141,Tryz.ntmps141;go_upto_region 3 with fail
  go_region_held3 (fun w'=>w'.cell? ⟨L.gp,0,none⟩=some (.pointer (some ⟨L.D.gd,0,none⟩))∧w'.cell? ⟨L.gp,7,none⟩=some (.int .u64 P.head.change)∧w'.cell? ⟨L.gp,8,none⟩=some (.int .i64 P.base)) (first | exact ⟨d0,d7,d8⟩ | exact ⟨c0,c7,c8⟩)
   (first
    | (go_at_call 201;(with_reducible refine (HST.out _ ?ba).mono ?_);(case ba=>exact HH.out.dk.ch (Ch.drew (Ch.refl (fun _=>False) w)) (fun _ _ h=>h));rintro e w1 ⟨gj,gn,rfl,hx,hgj,hgn,hb⟩;have HB:=hid (show Below w.heap.size w w1 from ((Below.refl w.heap.size w).drew).trans hb);have HX:=hid (And.intro hx (And.intro hgj hgn));clear hx hgj hgn hb;have hC1:=ag (HH.out.below HB.out).blk;have d0:=hC1.c0;have d7:=hC1.c7;have d8:=hC1.c8;clear hC1))
  have hC1:=ag (HH.out.below HB.out).blk;have k24:=hC1.c24;have y24:=hC1.fz 24;have kl:=hC1.lt;have hc2:Ch (fun k=>k=L.gp) w1 (w1.setCell ⟨L.gp,24,none⟩ (.pointer (some ⟨gj,0,none⟩))):=(Ch.refl (fun k=>k=L.gp) w1).setCell (p:=⟨L.gp,24,none⟩) rfl _;have HF:=hid (show PTo w L P.note (w1.setCell ⟨L.gp,24,none⟩ (.pointer (some ⟨gj,0,none⟩))) from by
   rw [HE.out];exact HH.out.newJn HB.out (g:=(gj,gn)) HX.out.1 HX.out.2.1 HX.out.2.2 hc2 (ae (HH.out.below HB.out).blk 24 (.pointer (some ⟨gj,0,none⟩))) rfl rfl rfl rfl rfl ⟨HH.out.ok.s1,HH.out.ok.s2,HH.out.ok.base,HH.out.ok.hp,HH.out.ok.wp,HH.out.ok.nos⟩)
  clear hC1 hc2 c0 c7 c8 d0 d7 d8;go_wp2_with fail;go_ret;exact ⟨rfl,HF.out⟩
 ·have HE:=hid (show P.note=P by unfold Pgr.note;rw [hnn]);rw [hN] at c24;unfold dq ai at *;clear h hC hj hc hN hnn hx;go_enter Tryz.func141,Tryz.ntmps141;go_wp2_with fail;go_ret;exact ⟨rfl,by rw [HE.out];exact PTo.refl HH.out⟩
def Dk.put (d:Dk) (n:Nat) (s:By):Dk:=d.wr aA n (aI 1 n 0 s)
def Dk.lay (d:Dk) (n:Nat) (s:By):Dk:=(d.fill aA (n - d.len aA)).put n s
theorem rq (n:Nat) (s:By) (w:World) {L:PgL} {P:Pgr} (h:PgIs w L P) (hf:P.d.Fine) (hc:P.d.Can aA n) (hn:n<4294967296) (hs:s.length=232):
  Calls Tryz.prog 216 #[ai L.gp,.int .i64 n,.string (aj s)] w fun e w'=>e=.returned (.int .i64 0)∧PTo w L { P with d:=P.d.put n s } w':=by
 have HC:=hid (fun w=>fh 1 n 0 s w (by decide) hn (by decide) hs);have HW:=hid (fun (w':World) (hd:DkIs w' L.D P.d)=>ed aA (by decide) n (aI 1 n 0 s) w' hd);rw [hf.wrE (by decide) (bw hs) hc,hf.wrS (by decide) (bw hs) hc] at HW;have HH:=hid h;obtain ⟨hl,hfz,c0,-,-⟩:=zx h.blk;unfold cN ai cZ at *;clear h hf hc hn hs hfz;go_enter Tryz.func216,Tryz.ntmps216;go_wp2_with fail;refine (HC.out _).mono ?_;rintro e w1 ⟨rfl,hb⟩;have HP1:=hid (HH.out.below hb);have HB:=hid hb;obtain ⟨hl,hfz,c0,-,-⟩:=zx HP1.out.blk;unfold ai at c0;clear hb hfz;go_wp2_with fail;refine (HW.out w1 HP1.out.dk).mono ?_;rintro e w2 ⟨rfl,hr⟩;have HR:=hid hr;clear hr;go_wp2_with fail;go_ret;exact ⟨rfl,(PTo.dk HP1.out HR.out).pre HB.out⟩
end Go.Proofs.YtdmhbgpejppbkaaGreat
