/- maps.Values over a cache's map, for every loop body: each entry once, in some order. slices.SortFunc over a cache's pages. -/
import Derived.Test.YtdmhbgpejppbkaaGreatXGat
import Derived.Test.YtdmhbgpejppbkaaGreatXShelf
import Derived.Lib.SlKeysI
import Derived.Shelf.AbstractIn
import Derived.RangeFuncMany
import Derived.RangeFuncStops
import Derived.RangeFuncLeaves
import Derived.Sort.MapsRangeIn
import Derived.OwnWalkIn
import Derived.TacticsInMore
import Derived.RegionIn
import Derived.LoopNIn
import Derived.LoopIn
set_option maxRecDepth 100000
set_option maxHeartbeats 1000000
namespace Go.Proofs.YtdmhbgpejppbkaaGreat
open Go.Lib (hid)
open Go.RowKit Go.Maps Go.Sort Go.Shelf
abbrev Pr (K:List (Int × Nat)):={ p:Int × Nat // p ∈ K }
def nG {K:List (Int × Nat)} (p:Pr K):Value:=.pointer (some ⟨p.1.2,0,none⟩)
theorem MapOf.hit {D:DataW Unit} {K:List (Int × Nat)} (h:MapOf D K) {n:Int} {y:DataW Unit} (hat:∀ z,D.atKey (cq n) z=y):∃ b,(n,b) ∈ K∧y=.lit (.int .i64 b):=by
 by_cases hn:n ∈ K.map (·.1)
 ·obtain ⟨p,hp,rfl⟩:=List.mem_map.1 hn;exact ⟨p.2,hp,(hat .nil).symm.trans (h.yes p hp .nil)⟩
 ·have:=has_true_of_atKey hat;rw [h.no n hn] at this;cases this
theorem vO {K:List (Int × Nat)} {D:DataW Unit} (h:MapOf D K) {ps:List (Pr K)} (hn:(ps.map (·.1.1)).Nodup) (hm:∀ x,x ∈ ps.map (·.1.1)↔has D (cq x)=true):(ps.map (·.1)).Perm K:=by
 have hk:K.Nodup:=List.Pairwise.of_map _ (fun a b hh e=>hh (congrArg _ e)) h.nd;have hp:(ps.map (·.1)).Nodup:=by
  have:(ps.map (·.1.1))=(ps.map (·.1)).map (·.1):=by rw [List.map_map];rfl
  rw [this] at hn;exact List.Pairwise.of_map _ (fun a b hh e=>hh (congrArg _ e)) hn
 refine (List.perm_ext_iff_of_nodup hp hk).2 fun p=>⟨fun hh=>?_,fun hh=>?_⟩
 ·obtain ⟨q,_,rfl⟩:=List.mem_map.1 hh;exact q.2
 ·have h1:has D (cq p.1)=true:=has_true_of_atKey (h.yes p hh);obtain ⟨q,hq,e⟩:=List.mem_map.1 ((hm p.1).2 h1);have h2:=h.yes q.1 q.2 .nil;have h3:=h.yes p hh .nil;have e':q.1.1=p.1:=e;rw [← e'] at h3;have e2:=h3.symm.trans h2;simp only [DataW.lit.injEq,Lit.int.injEq,true_and] at e2;have e3:p.2=q.1.2:=Int.natCast_inj.1 e2;have:p=q.1:=Prod.ext e.symm e3;exact List.mem_map.2 ⟨q,hq,this.symm⟩
theorem rc (F:Fence) (n:Nat) (h8:F.fn 219) (hro:F.round=none) (hn:1≤n) (l Bm b:Nat) (K:List (Int × Nat)) (J Jx:List (Pr K)→World→Prop)
  (hY:∀ pre x W,J pre W→pre.length<K.length→YieldAt F (n - 1) Tryz.prog l #[nG x] W fun e W'=>
    (e=.returned (.bool true)∧J (pre ++ [x]) W'∧KeepsWalks W W')∨(e=.returned (.bool false)∧Jx (pre ++ [x]) W'))
  (W:World) (hJ:AbidesFrom W.heap.size J) (hm:W.cell? ⟨Bm,0,none⟩=some (.map (some b))) (hmap:MapIs W b K) (h0:J [] W):
  CallsIn F n Tryz.prog 219 #[.func (.yield l) #[] #[],.pointer (some ⟨Bm,0,none⟩)] W fun e W'=>(∃ v,e=.returned v)∧
   ((∃ ps:List (Pr K),(ps.map (·.1)).Perm K∧J ps W')∨(∃ pre,Jx pre W')):=by
 obtain ⟨D0,hown,hmo⟩:=hmap;have HMO:=hid hmo;have hsz:Maps.size D0=K.length:=hmo.size;have HSZ:=hid hsz;clear hmo hsz;refine callsIn_of_wp Tryz.func219 rfl h8 ?_ hro;simp only [Tryz.ntmps219,List.size_toArray,List.length_cons,List.length_nil,Nat.reduceAdd,Nat.reduceSub,Array.replicate_succ,Array.replicate_zero,List.push_toArray,List.append_toArray,List.nil_append,List.cons_append];gi_wp2_with (first
  | (gi_at_range;refine wpListIn_range_own _ rfl _ 124 rfl 3 123 bY Tryz.underlying124 _ b K.length _ rfl hown ?_;intro w0 hrg0 hg0 hs0)
  | gi_in)
 go_frame
 gi_loopw [4] (fun _ wr=>∃ (left:Lit→Bool) (cnt:Nat) (ps:List (Pr K)),wr.ranges Tryz.prog 3 ga b W.heap.size K.length D0 left cnt∧ps.length+cnt≤K.length∧CollectedI D0 left (ps.map (·.1.1))∧J ps wr)
  (fun _ wr=>wr.rangeLeft b W.heap.size)
 case atStart=> exact ⟨_,_,[],hrg0,by simp [HSZ.out],CollectedI.start D0,hJ [] W w0 none h0 hg0 (fun r e=>by cases e)⟩
 case round=>
  obtain ⟨left,cnt,ps,hrg,hcs,hC,hJs⟩:=hrel;gi_wp2_with (first
   | (gi_at_next;refine wpListIn_next_ranges _ rfl _ rfl 3 bY ga (Value.int .i64) id (fun key kl hk=>by obtain ⟨x,hx,_⟩:=Maps.keyOf_int_inv Tryz.underlying3 hk;exact ⟨x,hx⟩) (fun v _ _=>⟨v,rfl⟩) b W.heap.size K.length _ _ _ rfl hrg ?_ ?_)
   | gi_in)
  ·intro hc0 hl0;gi_wp2;go_end0;exact ⟨⟨_,rfl⟩,.inl ⟨ps,vO HMO.out hC.1 (fun x=>by rw [hC.2 x,hl0];simp),hJs⟩⟩
  ·intro x c kl yd yp w2 cnt2 hkey hlk hv hat hrg2 hlt hg2 hs2 hen;obtain ⟨x',ex,rfl,_⟩:=Maps.keyOf_int_inv Tryz.underlying3 hkey;obtain rfl:x=x':=by simpa using ex
   obtain ⟨bb,hmem,rfl⟩:=HMO.out.hit hat;obtain rfl:c=.pointer (some ⟨bb,0,none⟩):=gJ hv;have hJ2:J ps w2:=hJ ps wr w2 (some W.heap.size) hJs hg2 (fun r e=>by cases e;exact ⟨Nat.le_refl _,hrg.iter_walk⟩);obtain ⟨fn,tmps,assign,body,hy,hR⟩:=hY ps ⟨(x,bb),hmem⟩ w2 hJ2 (by omega);dsimp only [nG] at hy;clear hs2;gi_wp2;refine hR.mono ?_;have hC2:CollectedI D0 (fun z=>left z && !z.sameKey (.int .i64 x)) ((ps ++ [(⟨(x,bb),hmem⟩:Pr K)]).map (·.1.1)):=by simpa using hC.step hlk hat
   rintro e W3 (⟨rfl,hJ3,hk3⟩ | ⟨rfl,hJx3⟩)
   ·gi_wp2;have hrg3:=hrg2.of_walks hk3;go_roundw
    case rel=>exact ⟨_,cnt2,ps ++ [⟨(x,bb),hmem⟩],hrg3,by simp;omega,hC2,hJ3⟩
    case measure=>rw [hrg3.left_eq,hrg.left_eq];exact hlt
   ·gi_wp2;refine bodyPost_ret (results_none rfl _ _ _) rfl ?_;exact ⟨⟨_,rfl⟩,.inr ⟨ps ++ [⟨(x,bb),hmem⟩],hJx3⟩⟩
theorem tL (F:Fence) (n:Nat) (hf:F.fn 166) (hro:F.round=none) (mb:Option Nat) (w:World):
  CallsIn F n Tryz.prog 166 #[.map mb] w fun e w'=>e=.returned (.func (.func 219) #[] #[.pointer (some ⟨w.heap.size,0,none⟩)])∧w'=w.alloc (.cells #[.map mb] 124):=by
 refine callsIn_of_wp Tryz.func166 rfl hf ?_ hro;simp only [Tryz.ntmps166,List.size_toArray,List.length_cons,List.length_nil,Nat.reduceAdd,Nat.reduceSub,Array.replicate_succ,Array.replicate_zero,List.push_toArray,List.append_toArray,List.nil_append,List.cons_append];gi_wp2;go_ret;exact ⟨rfl,rfl⟩
theorem oc (F:Fence) (n:Nat) (h7:F.fn 219) (hro:F.round=none) (hn:1≤n) (Bm b:Nat) (K:List (Int × Nat)) (w:World) (hBm:Bm<w.heap.size)
  (hm:w.cell? ⟨Bm,0,none⟩=some (.map (some b))) (hmap:MapIs w b K):
  SeqStops F n Tryz.prog 219 #[.pointer (some ⟨Bm,0,none⟩)] (nG (K:=K)) (fun ps=>(ps.map (·.1)).Perm K) (fun _=>True) K.length w:=fun l J Jx W hW hJ _ hY h0=>
 (rc F n h7 hro hn l Bm b K J Jx hY W hJ ((hW.cell (p:=⟨Bm,0,none⟩) hBm).trans hm) (hmap.block (hW.block b hmap.lt)) h0).mono fun _ _ ⟨h1,h2⟩=>⟨h1,h2.elim .inl (fun ⟨p,hp⟩=>.inr ⟨p,trivial,hp⟩)⟩
end Go.Proofs.YtdmhbgpejppbkaaGreat
namespace Go.Proofs.YtdmhbgpejppbkaaGreat
open Go.RowKit Go.Maps Go.Sort Go.Shelf Go.Lib
instance:Inhabited Pg:=⟨⟨0,⟨#[]⟩⟩⟩
theorem Ae (w:World):(isAgg 134).run Tryz.prog w=.ok true w:=by kernel_rfl
theorem yc (w:World):(sizeOf 134).run Tryz.prog w=.ok 2 w:=by kernel_rfl
def AA (x y:Pg):Int:=Lib.compareInt x.n y.n
theorem BP (x y:Pg):ltOf AA x y=decide (x.n<y.n):=by
 unfold ltOf AA Lib.compareInt;by_cases h1:x.n<y.n
 ·simp [h1]
 ·by_cases h2:y.n<x.n <;> simp [h1,h2]
theorem BV:SWO (ltOf AA) where
 irrefl x:=by rw [BP];simp
 trans x y z h1 h2:=by rw [BP] at *;simp at *;omega
 ntrans x y z h1 h2:=by rw [BP] at *;simp at *;omega
theorem xp (x y:Pg) (W:World):Calls Tryz.prog 168 #[.agg #[.int .i64 x.n,.string x.s],.agg #[.int .i64 y.n,.string y.s]] W fun e w'=>e=.returned (.int .i64 (AA x y))∧∃ q os',w'=grow (W.drewN q) os':=by
 have hcon:=fun W'=>Tryz.cmp_Compare_int x.n y.n W'
 unfold AA;generalize Lib.compareInt x.n y.n=r at hcon ⊢;go_enter Tryz.func168,Tryz.ntmps168;go_wp2_with (go_at_call 169;refine (hcon _).mono ?_;rintro e w' ⟨rfl,rfl⟩);go_ret;exact ⟨rfl,0,_,by rw [alloc_eq_grow,alloc_eq_grow,grow_grow];rfl⟩
theorem xo (blk off size:Nat) (w:World):CmpLays Tryz.prog 168 #[] Pg.cells 2 AA blk off size w:=
 fun _ _ _ _ x y=>xp x y _
def jI (a b:Pg):Bool:=decide (a.n≤b.n)
theorem mU {xs ys:List Pg} (hp:ys.Perm xs) (hnd:(xs.map (·.n)).Nodup) (hs:ys.Pairwise fun a b=>a.n≤b.n):ys=xs.mergeSort jI:=by
 have tr:∀ a b c:Pg,jI a b=true→jI b c=true→jI a c=true:=fun a b c h1 h2=>by simp only [jI,decide_eq_true_eq] at *;omega
 have tot:∀ a b:Pg,(jI a b || jI b a)=true:=fun a b=>by simp only [jI,Bool.or_eq_true,decide_eq_true_eq];omega
 have inj:∀ l:List Pg,(l.map (·.n)).Nodup→∀ a ∈ l,∀ b ∈ l,a.n=b.n→a=b:=by
  intro l
  induction l with
  | nil=>intro _ a ha;cases ha
  | cons x l ih=>
    intro h a ha b hb e;rw [List.map_cons,List.nodup_cons] at h;rcases List.mem_cons.1 ha with ea | ha1 <;> rcases List.mem_cons.1 hb with eb | hb1
    ·rw [ea,eb]
    ·subst ea;exact (h.1 (List.mem_map.2 ⟨b,hb1,e.symm⟩)).elim
    ·subst eb;exact (h.1 (List.mem_map.2 ⟨a,ha1,e⟩)).elim
    ·exact ih h.2 a ha1 b hb1 e
 refine List.Perm.eq_of_pairwise (le:=fun a b=>jI a b=true) (fun a b ha hb h1 h2=>?_) (hs.imp fun h=>by simpa [jI] using h) (List.pairwise_mergeSort tr tot xs) (hp.trans (List.mergeSort_perm xs jI).symm);simp only [jI,decide_eq_true_eq] at h1 h2;exact inj xs hnd a (hp.mem_iff.1 ha) b ((List.mergeSort_perm xs jI).mem_iff.1 hb) (by omega)
theorem jd (w:World) (blk n:Nat) (d:Array Pg) (os:Array Obj):Ch (fun k=>k=blk) w (sortWorldK Pg.cells 2 w blk 0 n d os):=by refine ⟨rfl,rfl,rfl,by simp [sortWorldK,putRowK,Sort.ahead],fun k hk hn=>?_⟩;unfold sortWorldK;rw [heap_grow_old _ _ (by simp [putRowK,Sort.ahead];exact hk)];simp only [putRowK,putRow,mapBlock,Sort.ahead,Array.getElem?_modify];rw [if_neg (fun e=>hn e.symm)]
theorem ya (base blk cap:Nat) (xs:List Pg) (w:World) (h:Own Pg.cells 2 134 base w (.slice (some ⟨blk,0,none⟩) xs.length cap) xs) (hnd:(xs.map (·.n)).Nodup) (hl:xs.length≤1000):
  Calls Tryz.prog 167 #[.slice (some ⟨blk,0,none⟩) xs.length cap,.func (.func 168) #[] #[]] w fun e w'=>
   e=.returned (.tuple #[])∧Sl Pg.cells 2 w' (.slice (some ⟨blk,0,none⟩) xs.length cap) (xs.mergeSort jI)∧Ch (fun k=>k=blk) w w':=by
 have eg:∀ args w,(callFunc 168 args).run Tryz.prog w=.ok (.enter 168 args) w:=enters_of Tryz.func168 (by kernel_rfl) rfl;have hblk:blk<w.heap.size:=(h.lt blk rfl).2;have hH:HoldsK Pg.cells 2 w blk 0 xs.toArray:=by
  rcases h.2 with ⟨hv,_⟩ | ⟨g,cap',cur,hv,hb,hg,hn,hm,hc,ht⟩
  ·cases hv
  ·cases hv;intro j hj;rw [size_flatK,List.size_toArray] at hj;rw [Nat.zero_add];refine ⟨?_,by simp [World.frozen?,hg]⟩;have hq:j / 2<xs.length:=by omega
   have h1:=gU Pg.cells 2 Pg.len xs (j / 2) xs[j / 2] (List.getElem?_eq_getElem hq) (j % 2) (((xs[j / 2]).cells)[j % 2]'(by rw [Pg.len];omega)) (List.getElem?_eq_getElem _);rw [show j / 2 * 2+j % 2=j from by omega,← ht,List.getElem?_take] at h1;rw [if_pos (by omega)] at h1
   ·rw [get_flatK _ _ _ _ (by rw [List.size_toArray];exact hj)];have e1:(xs.toArray)[j / 2]! = xs[j / 2]:=by simp [hq]
    have hjl:j % 2<(xs[j / 2]).cells.length:=by rw [Pg.len];omega
    have e2:((xs[j / 2]).cells)[j % 2]! = ((xs[j / 2]).cells)[j % 2]:=getElem!_pos (xs[j / 2].cells) (j % 2) hjl;rw [e1,e2];simp only [World.cell?,hg,Option.isSome_none,Bool.false_eq_true,if_false];simpa using h1
 have hcon:=AnyQ.slices_SortFunc Tryz.sortPg 2 Ae yc Pg.cells Pg.len (fun x v hv=>by simp [Pg.cells] at hv;rcases hv with rfl | rfl <;> rfl) AA BV 168 #[] blk 0 cap xs.toArray w eg (xo blk 0 _ w) hH hblk (by rw [List.size_toArray];omega);rw [List.size_toArray] at hcon;change Calls Tryz.prog 167 _ _ _ at hcon;refine hcon.mono fun e w' ⟨he,d',n,os,hp,hs,hw⟩=>⟨he,?_,hw ▸ jd w blk n d' os⟩
 obtain ⟨hsz,_,hperm⟩:=hp;replace hsz:d'.size=xs.length:=by simpa using hsz
 have hperm':d'.toList.Perm xs:=by
  have e1:d'.extract 0 xs.length=d':=by rw [← hsz];simp
  rw [e1] at hperm;simpa using hperm
 have hpw:d'.toList.Pairwise fun a b=>a.n≤b.n:=by
  refine List.pairwise_iff_getElem.2 fun i j hi hj hij=>?_
  rw [Array.length_toList] at hi hj;have:=hs i j (Nat.zero_le _) hij (by omega);rw [BP,decide_eq_false_iff_not,getElem!_pos d' i (by omega),getElem!_pos d' j (by omega)] at this;simp only [Array.getElem_toList];omega
 have hd:=mU hperm' hnd hpw;rw [← hd];have hHH:HoldsK Pg.cells 2 w' blk 0 d':=by rw [hw];unfold sortWorldK;exact holdsK_grow Pg.cells 2 _ _ _ _ _ (by simp [putRowK,Sort.ahead];exact hblk) (holdsK_putRowK Pg.cells 2 _ _ _ xs.toArray d' (holdsK_ahead Pg.cells 2 _ _ _ _ _ hH) (by rw [hsz,List.size_toArray]))
 refine ⟨some ⟨blk,0,none⟩,cap,by simp [hsz],fun _=>⟨blk,0,rfl,?_,fun i x hx j u hu=>?_⟩⟩
 ·rw [hw];exact Nat.lt_of_lt_of_le hblk (jd w blk n d' os).size
 ·have hi:i<d'.size:=by
   rcases Nat.lt_or_ge i d'.size with h | h
   ·exact h
   ·rw [List.getElem?_eq_none (by rw [Array.length_toList];exact h)] at hx;cases hx
  have hj:j<2:=by
   rcases Nat.lt_or_ge j 2 with h | h
   ·exact h
   ·rw [List.getElem?_eq_none (by rw [Pg.len];exact h)] at hu;cases hu
  rw [(hHH.cell hi hj).1];have e1:d'[i]! = x:=by rw [getElem!_pos d' i hi];rw [List.getElem?_eq_getElem (by rw [Array.length_toList];exact hi)] at hx;simpa using hx
  rw [e1];have hjl:j<x.cells.length:=by rw [Pg.len];exact hj
  rw [List.getElem?_eq_getElem hjl] at hu;rw [getElem!_pos x.cells j hjl];exact hu
theorem wL (p:Option Addr) (cap:Nat) (fv:Value) (w:World):Calls Tryz.prog 255 #[.slice p 0 cap,.int .i64 0,.int .i64 0,fv] w fun e w'=>e=.returned (.tuple #[])∧w=w':=by go_enter Tryz.func255,Tryz.ntmps255;go_wp2_with fail;go_rounds 1;go_end0;exact ⟨rfl,rfl⟩
theorem vP (p:Option Addr) (cap:Nat) (lim:Int) (fv:Value) (w:World):Calls Tryz.prog 220 #[.slice p 0 cap,.int .i64 0,.int .i64 0,.int .i64 lim,fv] w fun e w'=>e=.returned (.tuple #[])∧w=w':=by go_enter Tryz.func220,Tryz.ntmps220;go_wp2_with fail;refine wp_loop_rounds 1 ?_;rw [rounds_succ];go_wp2_with fail;refine (wL _ _ _ _).mono ?_;rintro e w' ⟨rfl,rfl⟩;go_wp2_with fail;refine bodyPost_ret (results_none rfl _ _ _) rfl ?_;exact ⟨rfl,rfl⟩
theorem tX (p:Option Addr) (cap:Nat) (fv:Value) (w:World):Calls Tryz.prog 167 #[.slice p 0 cap,fv] w fun e w'=>e=.returned (.tuple #[])∧w=w':=by
 have hl:∀ W,Calls Tryz.prog 205 #[.int .u64 0] W fun e w'=>e=.returned (.int .i64 (Lib.bitLen 0:Nat))∧w'=W:=fun W=>Tryz.bits_Len 0 W (by omega) (by omega)
 go_enter Tryz.func167,Tryz.ntmps167;go_wp2_with fail;refine (hl _).mono ?_;rintro e w' ⟨rfl,rfl⟩;go_wp2_with fail;refine (vP _ _ _ _ _).mono ?_;rintro e w' ⟨rfl,rfl⟩;go_wp2_with fail;go_end0;exact ⟨rfl,rfl⟩
end Go.Proofs.YtdmhbgpejppbkaaGreat
