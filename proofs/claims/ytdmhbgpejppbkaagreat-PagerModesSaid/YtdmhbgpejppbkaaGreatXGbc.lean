/- spare.trunk, spare.lay over a pager's inner pages. spare.Take over a shelf's book. -/
import Derived.Test.YtdmhbgpejppbkaaGreatXGbb
import Derived.Deep.RegionWith
set_option maxRecDepth 100000
set_option maxHeartbeats 2000000
namespace Go.Proofs.YtdmhbgpejppbkaaGreat
open Go.Lib (hid)
open Go.RowKit Go.Maps
def nz (g:Nat):Value:=.iface 111 (cP g)
theorem kF (n:Nat) (w1:World) {w:World} {L:PgL} {P:Pgr} {e0:Ev} {cz:Nat} {B:Int→By} {X:Nat→Prop} (h:In w L P e0 cz B X w1) (hcz:cz≤300) (h1:1≤n) (hn:n<e0.N) (hl:(B n).length=232):
  Calls Tryz.prog 138 #[nz L.gp,.int .i64 n] w1 fun e w2=>∃ lv,e=.returned (.tuple #[.agg #[.int .i64 (cS (B n)).next,lv],.int .i64 (jk (B n))])∧Own iC 1 3 w1.heap.size w2 lv (cS (B n)).list∧In w L P e0 (cz+2) B (fun k=>X k∨lv.ownBlock=some k) w2∧Ch (fun k=>¬ X k) w1 w2:=by
 have hX:(w1.alloc (.cells #[.int .i64 0,.slice none 0 0] 164)).heap[w1.heap.size]?=some (.cells #[.int .i64 0,.slice none 0 0] 164 (0,0)):=af rfl;have HX:=hid hX;have HA:=hid (h.alloc (.cells #[.int .i64 0,.slice none 0 0] 164));have HXL:=hid (fun k (hk:X k)=>h.lt hk);have HG:=hid (uJ n _ HA.out hcz h1 hn);have hal:Below w1.heap.size w1 (w1.alloc (.cells #[.int .i64 0,.slice none 0 0] 164)):=(Below.refl _ w1).alloc (Nat.le_refl _) _;have HAL:=hid hal;have HL:=hid hl;unfold cP ai at HG;unfold nz cP ai;clear hX h h1 hn hl hal hcz;go_enter Tryz.func138,Tryz.ntmps138;go_wp2_with fail;refine HG.out.mono ?_;rintro e w2 ⟨rfl,hi,hc⟩;have HR2:=hid (hc.keep HX.out (fun hh=>hh (.inr rfl)));have HI2:=hid hi;have HC2:=hid hc;clear hi hc;go_wp2_with fail;refine (ov (aj (B n)) w2 (by rw [aw];exact HL.out)).mono ?_;rw [aR];rintro e w3 ⟨v,rfl,⟨lv,rfl,ho⟩,hb⟩;obtain ⟨A,c,rfl⟩:=Sl.len' (ho.sl dF);obtain ⟨lvb,hlvb⟩:∃ v:Value,v=.slice A (cS (B n)).list.length c:=⟨_,rfl⟩;have HO:=hid ho;have HR3:=aB HR2.out hb;have hs2:=HC2.out.size;have hs3:=hb.size;have hgl1:=ab HX.out
 have HI3:=hid (HI2.out.below (X':=fun k=>(X k∨k=w1.heap.size)∨lvb.ownBlock=some k) hb fun k hk=>hk.imp id fun e=>by
  rw [hlvb] at e;exact ho.lt k e)
 have HC3:=hid (HC2.out.trans (Ch.of_below hb));have HI4:=hid (HI3.out.post ((Below.refl _ w3).alloc (Nat.le_refl _) (.cells #[.int .i64 (cS (B n)).next,.slice A (cS (B n)).list.length c] 164)));have HC4:=hid (HC3.out.alloc (.cells #[.int .i64 (cS (B n)).next,.slice A (cS (B n)).list.length c] 164));have HCF:=hid ((Ch.of_below (S:=fun k=>¬ X k) HAL.out).trans (HC4.out.mono fun k _ e hx=>e (.inl hx)));have HG4:=hid (ar HR3 (.cells #[.int .i64 (cS (B n)).next,.slice A (cS (B n)).list.length c] 164));have HT4:=hid (af (w0:=w3) (g:=w3.heap.size) (o:=.cells #[.int .i64 (cS (B n)).next,.slice A (cS (B n)).list.length c] 164) rfl);have HO4:=hid (ho.alloc (.cells #[.int .i64 (cS (B n)).next,.slice A (cS (B n)).list.length c] 164));obtain ⟨r0,r1,r2,r3,r4⟩:=db HG4.out;obtain ⟨t0,t1,t2,t3,t4⟩:=db HT4.out;have HLV:=hid hlvb;have HS2:=hid hs2;clear ho hb hlvb hs3 HR3;go_upto_region 5 with fail
 generalize w3.alloc (.cells #[.int .i64 (cS (B n)).next,.slice A (cS (B n)).list.length c] 164)=w4 at *;generalize w3.heap.size=g3 at *;cases hd:cT (B n)
 ·have HE:=hid (show iZ (B n)=4∧jk (B n)=30∧cS (B n)=⟨0,[]⟩ by simp [iZ,jk,cS,hd]);rw [HE.out.1];go_wp2_with fail;have hx:=ae (ae HG4.out 0 (.int .i64 0)) 1 (.slice none 0 0);obtain ⟨q0,q1,-⟩:=db hx
  exact bodyPost_ret (v:=.tuple #[.agg #[.int .i64 0,.slice none 0 0],.int .i64 (jk (B n))]) (by rw [HE.out.2.1];simp [results,Tryz.results138,go_sem,q0,q1]) rfl ⟨.slice none 0 0,by rw [HE.out.2.2],by rw [HE.out.2.2];exact Own.nil,
   (((HI4.out.set (p:=⟨w1.heap.size,0,none⟩) (.inl (.inr rfl)) (.int .i64 0)).set (p:=⟨w1.heap.size,1,none⟩) (.inl (.inr rfl)) (.slice none 0 0)).sub fun k hk=>hk.elim (fun e=>.inl (.inl e)) (fun e=>by cases e)),HCF.out.then (((Ch.refl (fun j=>j=w1.heap.size) w4).setCell (p:=⟨w1.heap.size,0,none⟩) rfl (.int .i64 0)).setCell (p:=⟨w1.heap.size,1,none⟩) rfl (.slice none 0 0)) (fun i e=>.inr (Nat.le_of_eq e.symm))⟩
 ·have HE:=hid (show iZ (B n)=0∧jk (B n)=0 by simp [iZ,jk,hd]);rw [HE.out.1];go_wp2_with fail;have hx:=ae (ae HG4.out 0 (.int .i64 (cS (B n)).next)) 1 (.slice A (cS (B n)).list.length c);obtain ⟨q0,q1,-⟩:=db hx
  exact bodyPost_ret (v:=.tuple #[.agg #[.int .i64 (cS (B n)).next,.slice A (cS (B n)).list.length c],.int .i64 (jk (B n))]) (by rw [HE.out.2];simp [results,Tryz.results138,go_sem,q0,q1]) rfl ⟨_,rfl,(HO4.out.ch (((Ch.refl (fun j=>j=w1.heap.size) _).setCell (p:=⟨w1.heap.size,0,none⟩) rfl _).setCell (p:=⟨w1.heap.size,1,none⟩) rfl _) (fun j hj e=>by have:=(HO.out.lt j hj).1;omega)).base (by have:=HS2.out;simp at this;omega),
   (((HI4.out.set (p:=⟨w1.heap.size,0,none⟩) (.inl (.inr rfl)) _).set (p:=⟨w1.heap.size,1,none⟩) (.inl (.inr rfl)) _).sub fun k hk=>hk.elim (fun e=>.inl (.inl e)) (fun e=>.inr (by rw [HLV.out];exact e))),HCF.out.then (((Ch.refl (fun j=>j=w1.heap.size) w4).setCell (p:=⟨w1.heap.size,0,none⟩) rfl _).setCell (p:=⟨w1.heap.size,1,none⟩) rfl _) (fun i e=>.inr (Nat.le_of_eq e.symm))⟩
theorem xT (B:Int→By) (n:Int) (s:By):bW B n s=fU B n s:=rfl
theorem iR (n:Nat) (t:Tk) (v:Value) (w1:World) {w:World} {L:PgL} {P:Pgr} {e0:Ev} {cz:Nat} {B:Int→By} {X:Nat→Prop} (h:In w L P e0 cz B X w1) (hcz:cz≤300) (h1:1≤n) (hn:n<e0.N) (hs:Sl iC 1 w1 v t.list) (hl:t.list.length≤1000000):
  Calls Tryz.prog 139 #[nz L.gp,.int .i64 n,.agg #[.int .i64 t.next,v]] w1 fun e w2=>e=.returned (.int .i64 (kn t))∧In w L P e0 (cz+102) (jJ t B n) X w2∧Ch (fun k=>¬ X k) w1 w2:=by
 have HS:=hid hs;obtain ⟨A,c,rfl⟩:=Sl.len' hs;have HH:=hid h;have HA:=hid ((Below.refl _ w1).alloc (Nat.le_refl _) (.cells #[.int .i64 t.next,.slice A t.list.length c] 164));have HN:=hid (And.intro h1 hn);have HCZ:=hid hcz;unfold nz cP ai;clear h hs h1 hn hcz;go_enter Tryz.func139,Tryz.ntmps139;go_wp2_with fail;refine (iF t _ _ (HS.out.keep HA.out) hl).mono ?_;rintro e w2 ⟨rfl,hb⟩;have HB1:=hid (HA.out.trans (hb.mono HA.out.size));have HI1:=hid (HH.out.post HB1.out);clear hb;cases hbad:bE t
 ·have HE:=hid (show kn t=0∧jJ t B n=fU B n (aT (eG t)) by simp [kn,jJ,hbad,xT]);rw [show vq t=.tuple #[.string (aj (aT (eG t))),.int .i64 0] by unfold vq;rw [hbad];rfl];have HP:=hid (uI n (aT (eG t)) w2 HI1.out HCZ.out HN.out.1 HN.out.2 (gT _));unfold cP ai at HP;generalize aT (eG t)=F at *;go_wp2_with fail;refine HP.out.mono ?_;rintro e w3 ⟨rfl,hi,hc⟩;have HF:=hid (show In w L P e0 (cz+102) (jJ t B n) X w3∧Ch (fun k=>¬ X k) w1 w3 from ⟨by rw [HE.out.2];exact hi,(Ch.of_below HB1.out).trans hc⟩);clear hi hc;go_wp2_with fail;go_ret;exact ⟨by rw [HE.out.1];rfl,HF.out⟩
 ·have HE:=hid (show kn t=30∧jJ t B n=B by simp [kn,jJ,hbad]);rw [show vq t=.tuple #[.string (aj []),.int .i64 1] by unfold vq;rw [hbad];rfl];go_wp2_with fail;go_ret;exact ⟨by rw [HE.out.1];rfl,by rw [HE.out.2];exact HI1.out.mono (by omega),Ch.of_below HB1.out⟩
structure Hd where
 mode:Int
 pages:Int
 trunk:Int
 spare:Int
 root:Int
 change:Int
def Hd.zero:Hd:=⟨0,0,0,0,0,0⟩
def Hd.cells (h:Hd):Array Value:=#[.int .i64 h.mode,.int .i64 h.pages,.int .i64 h.trunk,.int .i64 h.spare,.int .i64 h.root,.int .u64 h.change]
def Hd.val (h:Hd):Value:=.agg h.cells
def fS (h:Hd):Obj:=.cells #[.int .i64 h.mode,.int .i64 h.pages,.int .i64 h.trunk,.int .i64 h.spare,.int .i64 h.root,.int .u64 h.change] 38 (0,0)
theorem aE {w:World} {g:Nat} {h:Hd} (hh:w.heap[g]?=some (fS h)):w.cell? ⟨g,0,none⟩=some (.int .i64 h.mode)∧w.cell? ⟨g,1,none⟩=some (.int .i64 h.pages)∧w.cell? ⟨g,2,none⟩=some (.int .i64 h.trunk)∧
  w.cell? ⟨g,3,none⟩=some (.int .i64 h.spare)∧w.cell? ⟨g,4,none⟩=some (.int .i64 h.root)∧w.cell? ⟨g,5,none⟩=some (.int .u64 h.change)∧g<w.heap.size:=
 ⟨aa hh 0,aa hh 1,aa hh 2,aa hh 3,aa hh 4,aa hh 5,ab hh⟩
theorem bi {w:World} {g:Nat} {h:Hd} (hh:w.heap[g]?=some (fS h)):w.frozen? ⟨g,0,none⟩=false∧w.frozen? ⟨g,1,none⟩=false∧w.frozen? ⟨g,2,none⟩=false∧w.frozen? ⟨g,3,none⟩=false∧w.frozen? ⟨g,4,none⟩=false∧w.frozen? ⟨g,5,none⟩=false:=
 ⟨ah hh 0,ah hh 1,ah hh 2,ah hh 3,ah hh 4,ah hh 5⟩
def iT (w:World) (g:Nat) (h:Hd):World:=(((((w.setCell ⟨g,0,none⟩ (.int .i64 h.mode)).setCell ⟨g,1,none⟩ (.int .i64 h.pages)).setCell ⟨g,2,none⟩ (.int .i64 h.trunk)).setCell ⟨g,3,none⟩ (.int .i64 h.spare)).setCell ⟨g,4,none⟩ (.int .i64 h.root)).setCell ⟨g,5,none⟩ (.int .u64 h.change)
theorem lO {w:World} {g:Nat} {h0:Hd} (hh:w.heap[g]?=some (fS h0)) (h:Hd):(iT w g h).heap[g]?=some (fS h):=ae (ae (ae (ae (ae (ae hh 0 _) 1 _) 2 _) 3 _) 4 _) 5 _
theorem sA {S:Nat→Prop} {a w:World} {g:Nat} (hc:Ch S a w) (hg:S g) (h:Hd):Ch S a (iT w g h):=
 (((((hc.setCell (p:=⟨g,0,none⟩) hg _).setCell (p:=⟨g,1,none⟩) hg _).setCell (p:=⟨g,2,none⟩) hg _).setCell (p:=⟨g,3,none⟩) hg _).setCell (p:=⟨g,4,none⟩) hg _).setCell (p:=⟨g,5,none⟩) hg _
theorem Own.cap {α:Type} {f:α→List Value} {size:Nat} {e:TypeId} {base:Nat} {w:World} {A:Option Addr} {n c:Nat} {xs:List α} (h:Own f size e base w (.slice A n c) xs):n≤c:=by
 rcases h.2 with ⟨hv,h0⟩ | ⟨g,cap,cur,hv,_,_,hn,_⟩
 ·injection hv with _ h1 h2;omega
 ·injection hv with _ h1 h2;omega
theorem Sl.take {α:Type} {f:α→List Value} {size:Nat} {w:World} {a:Addr} {n c:Nat} {xs:List α} (h:Sl f size w (.slice (some a) n c) xs) (k:Nat) (hk:k≤xs.length):Sl f size w (.slice (some a) k c) (xs.take k):=by
 obtain ⟨A,c',he,hx⟩:=h;injection he with h1 h2 h3
 subst h1 h3;refine ⟨some a,c,by rw [List.length_take,Nat.min_eq_left hk],fun hne=>?_⟩;obtain ⟨b,off,e1,hlt,hcs⟩:=hx (fun e=>hne (by rw [e];simp));refine ⟨b,off,e1,hlt,fun i x hx j u hu=>hcs i x ?_ j u hu⟩;rw [List.getElem?_take] at hx
 split at hx
 ·exact hx
 ·cases hx
theorem ri {t:Tk} (h:bE t=false) (k:Nat):bE ⟨t.next,t.list.take k⟩=false:=by
 unfold bE at h ⊢;rw [Bool.or_eq_false_iff,Bool.or_eq_false_iff] at h ⊢;obtain ⟨⟨h1,h2⟩,h3⟩:=h;refine ⟨⟨h1,?_⟩,?_⟩
 ·simp at h2 ⊢;omega
 ·rw [List.any_eq_false] at h3 ⊢;exact fun x hx=>h3 x (List.mem_of_mem_take hx)
theorem jR {l:List UInt8} (h:cT l=true):bE (bt l)=false:=by unfold cT at h;simp at h;exact h.1
structure Taken where
 n:Int
 h:Hd
 e:Int
 B:Int→List UInt8
def ao (B:Int→List UInt8) (e:Int):Taken:=⟨0,Hd.zero,e,B⟩
def de (t:Tk) (pages:Int):Bool:=decide (pages≤t.next) || (decide (0<t.list.length) && decide (pages≤t.list.getD (t.list.length - 1) 0))
def az (h:Hd) (B:Int→List UInt8):Taken:=
 if h.spare=0 then if 4096≤h.pages then ao B 22 else ⟨h.pages,{ h with pages:=h.pages+1 },0,B⟩
 else if cT (B h.trunk)=false then ao B 30
 else
  let t:=bt (B h.trunk)
  if de t h.pages then ao B 30
  else if 0<t.list.length then ⟨t.list.getD (t.list.length - 1) 0,{ h with spare:=h.spare - 1 },0,bW B h.trunk (aT (eG ⟨t.next,t.list.take (t.list.length - 1)⟩))⟩
  else if ((t.next == 0) != (h.spare == 1)) then ao B 30
  else ⟨h.trunk,{ h with trunk:=t.next,spare:=h.spare - 1 },0,B⟩
structure Hd.Ok (h:Hd):Prop where
 p1:1≤h.pages
 p2:h.pages≤4096
 t0:0≤h.trunk
 t1:h.trunk<4096
 s0:0≤h.spare
 s1:h.spare≤4096
theorem cI {w:World} {g:Nat} {o:Obj} (h:w.heap[g]?=some o) {a:Addr} (hn:a.block≠g) (u:Value):(w.setCell a u).heap[g]?=some o:=(Below.heap_setCell _ _ _ _ (fun e=>hn e.symm)).trans h
end Go.Proofs.YtdmhbgpejppbkaaGreat
