/- disk: Write: three rows are added to in whatever order. -/
import Derived.Test.YtdmhbgpejppbkaaGreatXGaj
import Derived.Test.YtdmhbgpejppbkaaGreatXGak
namespace Go.Proofs.YtdmhbgpejppbkaaGreat
open Go.RowKit
section
variable {α:Type} (fC:α→List Value) (e:TypeId) (v0:Value) (xs:List α) (y:α)
def ii (a:Bool) (va:Value):Ob:=if a then Ob.row fC 1 e va (xs ++ [y]) else Ob.row fC 1 e v0 xs
def mw (b a:Bool) (vb:Value):Ob:=if b && !a then Ob.row fC 1 e vb [y] else Ob.nil
end
def bJ (s:Bool) (va v0:Value):Value:=if s then va else v0
structure ChF (N:Nat) (v0:Value) (l b a s:Bool) (vl vb va:Value):Prop where
 sa:s=true→a=true
 al:a=true→l=true∧b=true
 vl:l=true→vl=v0
 vb:b=true→∃ gk,vb=.slice (some ⟨gk,0,none⟩) 1 1
 na:a=true→va.ownBlock=v0.ownBlock∨∀ k,va.ownBlock=some k→N≤k
section
variable {α:Type} {fC:α→List Value} {e:TypeId} {v0:Value} {xs:List α} {y:α} {N:Nat} {l b a s:Bool} {vl vb va v':Value} {wn w':World} {l1 l2 l3:List Ob}
theorem jr (h:Sep wn (l1 ++ mw fC e y false a vb :: l2)) {u:Value} (hf:fC y=[u]):Sep (wn.alloc (.cells #[u] e)) (l1 ++ mw fC e y true false (.slice (some ⟨wn.heap.size,0,none⟩) 1 1) :: l2):=by
 refine h.upd (S:=fun _=>False) ((Ch.refl _ wn).alloc _) (fun _ h=>h.elim) ?_ (fun k hk=>?_)
 ·show Own fC 1 e 0 (wn.alloc (.cells #[u] e)) (.slice (some ⟨wn.heap.size,0,none⟩) 1 1) [y];unfold Own;have h1:(wn.alloc (.cells #[u] e)).ownsRow 0 e 1 (.slice (some ⟨wn.heap.size,0,none⟩) 1 1) 1 [u]:=World.ownsRow_lit wn #[u] 1 (Nat.zero_le _) (by simp [maxLen]) (by simp);simpa [hf] using h1
 ·have hk:(Value.slice (some ⟨wn.heap.size,0,none⟩) 1 1).ownBlock=some k:=hk;injection hk with hk
  exact .inr (by simp only at hk;omega)
theorem ox (h:Sep wn (l1 ++ ii fC e v0 xs y false va :: (l2 ++ mw fC e y b false vb :: l3))) (ho:Own fC 1 e 0 w' v' (xs ++ [y])) (hg:wn.grownBy w' v0.ownBlock) (hat:v'.ownBlock=v0.ownBlock∨v'.ownBlock=some wn.heap.size):
  Sep w' (l1 ++ ii fC e v0 xs y true v' :: (l2 ++ mw fC e y b true vb :: l3)):=by
 have h1:=(show Sep wn ((l1 ++ ii fC e v0 xs y false va :: l2) ++ mw fC e y b false vb :: l3) by simpa using h).as (b:=mw fC e y b true vb) (by unfold mw;rw [if_neg (by simp)];trivial) (fun k hk=>by unfold mw at hk;rw [if_neg (by simp)] at hk;exact hk.elim);have h2:Sep wn (l1 ++ ii fC e v0 xs y false va :: (l2 ++ mw fC e y b true vb :: l3)):=by simpa using h1
 refine h2.upd (Ch.of_grown (S:=fun k=>v0.ownBlock=some k) hg fun k hk=>hk) (fun k hk=>hk) ho (fun k hk=>?_);have hk:v'.ownBlock=some k:=hk;rcases hat with e1 | e1
 ·exact .inl (show v0.ownBlock=some k from e1 ▸ hk)
 ·rw [e1] at hk;injection hk with hk;exact .inr (by omega)
theorem ChF.free (h:ChF N v0 l b a s vl vb va) (ha:a=false):s=false:=by
 cases hs:s with
 | false=>rfl
 | true=>have:=h.sa hs;rw [ha] at this;cases this
theorem ChF.load (h:ChF N v0 false b a s vl vb va):ChF N v0 true b a s v0 vb va:=⟨h.sa,fun ha=>(by have:=(h.al ha).1;cases this),fun _=>rfl,h.vb,h.na⟩
theorem ChF.notA (h:ChF N v0 l b a s vl vb va) (hl:l=false∨b=false):a=false:=by
 cases ha:a with
 | false=>rfl
 | true=>have:=h.al ha;rcases hl with h1 | h1 <;> simp [h1] at this
theorem ChF.bld (h:ChF N v0 l false a s vl vb va) (gk:Nat):ChF N v0 l true a s vl (.slice (some ⟨gk,0,none⟩) 1 1) va:=⟨h.sa,fun ha=>(by have:=(h.al ha).2;cases this),h.vl,fun _=>⟨gk,rfl⟩,h.na⟩
theorem ChF.app (h:ChF N v0 true true false s vl vb va) (hn:v'.ownBlock=v0.ownBlock∨∀ k,v'.ownBlock=some k→N≤k):ChF N v0 true true true s vl vb v':=⟨fun _=>rfl,fun _=>⟨rfl,rfl⟩,h.vl,h.vb,fun _=>hn⟩
theorem ChF.sto (h:ChF N v0 l b true s vl vb va):ChF N v0 l b true true vl vb va:=⟨fun _=>rfl,h.al,h.vl,h.vb,h.na⟩
end
def WrJ (w5:World) (g:Nat) (m:FilM) (f:Fi) (l0 b0 a0 l1 b1 a1 l2 b2 a2 s0 s1 s2:Bool) (vl0 vb0 va0 vl1 vb1 va1 vl2 vb2 va2:Value) (wn:World):Prop:=
 Ch (m.own g) w5 wn∧ChF w5.heap.size m.vn l0 b0 a0 s0 vl0 vb0 va0∧ChF w5.heap.size m.vs l1 b1 a1 s1 vl1 vb1 va1∧ChF w5.heap.size m.vw l2 b2 a2 s2 vl2 vb2 va2∧
 Sep wn [Ob.blk g (.cells #[bJ s0 va0 m.vn,bJ s1 va1 m.vs,bJ s2 va2 m.vw,.bool f.sure] 87 (0,0)),
  ii pC 98 m.vn (m.ps.map some) none a0 va0,ii pC 98 m.vs m.qs none a1 va1,ii bC 4 m.vw f.waits false a2 va2,
  mw pC 98 none b0 a0 vb0,mw pC 98 none b1 a1 vb1,mw bC 4 false b2 a2 vb2]
section
variable {w5 wn w6:World} {C:Nat→Prop} {E:Nat→By} {g:Nat} {m:FilM} {f:Fi} {l0 b0 a0 l1 b1 a1 l2 b2 a2 s0 s1 s2:Bool} {vl0 vb0 va0 vl1 vb1 va1 vl2 vb2 va2 v':Value}
theorem WrJ.start (h:FilIs w5 C E g m f):WrJ w5 g m f false false false false false false false false false false false false vl0 vb0 va0 vl1 vb1 va1 vl2 vb2 va2 w5.drew:=by
 have hz:∀ v0 vl vb va,ChF w5.heap.size v0 false false false false vl vb va:=fun _ _ _ _=>⟨fun h=>(by cases h),fun h=>(by cases h),fun h=>(by cases h),fun h=>(by cases h),fun h=>(by cases h)⟩
 refine ⟨(Ch.refl _ _).drew,hz _ _ _ _,hz _ _ _ _,hz _ _ _ _,fun o ho=>?_,?_⟩
 ·have h2:=h.ch (S:=fun _=>False) ((Ch.refl _ w5).drew) (fun _ _ h=>h);simp only [List.mem_cons,List.not_mem_nil,or_false] at ho;rcases ho with rfl | rfl | rfl | rfl | rfl | rfl | rfl
  ·exact h2.blk
  ·exact h2.on
  ·exact h2.os
  ·exact h2.ow
  ·trivial
  ·trivial
  ·trivial
 ·have hn:∀ (o:Ob),o.F=(fun _=>False)→∀ k,¬ o.F k:=fun o ho k hk=>by rw [ho] at hk;exact hk
  simp only [List.pairwise_cons,List.mem_cons,List.not_mem_nil,or_false,false_imp_iff,implies_true,forall_eq_or_imp,forall_eq,List.Pairwise.nil,and_true];have d1:=h.g1;have d2:=h.g2;have d3:=h.g3;have d4:=h.d12;have d5:=h.d13;have d6:=h.d23;refine ⟨⟨?_,?_,?_,?_,?_,?_⟩,⟨?_,?_,?_,?_,?_⟩,⟨?_,?_,?_,?_⟩,⟨?_,?_,?_⟩,⟨?_,?_⟩,?_⟩
  ·rintro k rfl hk;exact d1 hk
  ·rintro k rfl hk;exact d2 hk
  ·rintro k rfl hk;exact d3 hk
  ·exact fun k _ h=>h
  ·exact fun k _ h=>h
  ·exact fun k _ h=>h
  ·exact d4
  ·exact d5
  ·exact fun k _ h=>h
  ·exact fun k _ h=>h
  ·exact fun k _ h=>h
  ·exact d6
  ·exact fun k _ h=>h
  ·exact fun k _ h=>h
  ·exact fun k _ h=>h
  ·exact fun k _ h=>h
  ·exact fun k _ h=>h
  ·exact fun k _ h=>h
  ·exact fun k _ h=>h
  ·exact fun k _ h=>h
  ·exact fun k _ h=>h
theorem dW {α:Type} {f:α→List Value} {size:Nat} {e:TypeId} {base:Nat} {w:World} {v:Value} {xs:List α} (h:Own f size e base w v xs):∃ A n c,v=.slice A n c:=by
 rcases h.2 with ⟨hv,_⟩ | ⟨g,cap,cur,hv,_⟩
 ·exact ⟨_,_,_,hv⟩
 ·exact ⟨_,_,_,hv⟩
theorem WrJ.cell0 (h:WrJ w5 g m f false b0 a0 l1 b1 a1 l2 b2 a2 s0 s1 s2 vl0 vb0 va0 vl1 vb1 va1 vl2 vb2 va2 wn):wn.cell? ⟨g,0,none⟩=some m.vn∧g<wn.heap.size:=by obtain ⟨hc,h0,h1,h2,hs⟩:=h;have hb:wn.heap[g]?=some _:=hs.1 _ List.mem_cons_self;have hf:s0=false:=h0.free (h0.notA (.inl rfl));subst hf;exact ⟨aa hb 0,ab hb⟩
theorem WrJ.load0 (h:WrJ w5 g m f false b0 a0 l1 b1 a1 l2 b2 a2 s0 s1 s2 vl0 vb0 va0 vl1 vb1 va1 vl2 vb2 va2 wn):WrJ w5 g m f true b0 a0 l1 b1 a1 l2 b2 a2 s0 s1 s2 m.vn vb0 va0 vl1 vb1 va1 vl2 vb2 va2 wn:=by obtain ⟨hc,h0,h1,h2,hs⟩:=h;exact ⟨hc,h0.load,h1,h2,hs⟩
theorem WrJ.bld0 (h:WrJ w5 g m f l0 false a0 l1 b1 a1 l2 b2 a2 s0 s1 s2 vl0 vb0 va0 vl1 vb1 va1 vl2 vb2 va2 wn):WrJ w5 g m f l0 true a0 l1 b1 a1 l2 b2 a2 s0 s1 s2 vl0 (.slice (some ⟨wn.heap.size,0,none⟩) 1 1) va0 vl1 vb1 va1 vl2 vb2 va2 (wn.alloc (.cells #[.pointer none] 98)):=by obtain ⟨hc,h0,h1,h2,hs⟩:=h;have ha:a0=false:=h0.notA (.inr rfl);subst ha;exact ⟨hc.alloc _,(h0.bld _),h1,h2,jr (l1:=[Ob.blk g (.cells #[bJ s0 va0 m.vn,bJ s1 va1 m.vs,bJ s2 va2 m.vw,.bool f.sure] 87 (0,0)),ii pC 98 m.vn (m.ps.map some) none false va0,ii pC 98 m.vs m.qs none a1 va1,ii bC 4 m.vw f.waits false a2 va2]) hs rfl⟩
theorem WrJ.pre0 (h:WrJ w5 g m f true true false l1 b1 a1 l2 b2 a2 s0 s1 s2 vl0 vb0 va0 vl1 vb1 va1 vl2 vb2 va2 wn):vl0=m.vn∧Own pC 1 98 0 wn m.vn (m.ps.map some)∧∃ gk,vb0=.slice (some ⟨gk,0,none⟩) 1 1∧Own pC 1 98 0 wn vb0 [none]:=by obtain ⟨hc,h0,h1,h2,hs⟩:=h;obtain ⟨gk,hg⟩:=h0.vb rfl;exact ⟨h0.vl rfl,hs.1 (ii pC 98 m.vn (m.ps.map some) none false va0) (by simp),gk,hg,hs.1 (mw pC 98 none true false vb0) (by simp)⟩
theorem WrJ.app0 (h:WrJ w5 g m f true true false l1 b1 a1 l2 b2 a2 s0 s1 s2 vl0 vb0 va0 vl1 vb1 va1 vl2 vb2 va2 wn) (ho:Own pC 1 98 0 w6 v' ((m.ps.map some) ++ [none])) (hg:wn.grownBy w6 m.vn.ownBlock) (hat:v'.ownBlock=m.vn.ownBlock∨v'.ownBlock=some wn.heap.size):WrJ w5 g m f true true true l1 b1 a1 l2 b2 a2 s0 s1 s2 vl0 vb0 v' vl1 vb1 va1 vl2 vb2 va2 w6:=by
 obtain ⟨hc,h0,h1,h2,hs⟩:=h;have hf:s0=false:=h0.free rfl;subst hf;refine ⟨?_,(h0.app (hat.imp id fun e k hk=>?_)),h1,h2,?_⟩
 ·exact hc.then (Ch.of_grown (S:=fun k=>m.vn.ownBlock=some k) hg fun k hk=>hk) fun k hk=>.inl (.inr (.inl hk))
 ·rw [e] at hk;injection hk with hk;have:=hc.size;omega
 ·exact ox (l1:=[Ob.blk g (.cells #[bJ false va0 m.vn,bJ s1 va1 m.vs,bJ s2 va2 m.vw,.bool f.sure] 87 (0,0))]) (l2:=[ii pC 98 m.vs m.qs none a1 va1,ii bC 4 m.vw f.waits false a2 va2]) hs ho hg hat
theorem WrJ.sto0 (h:WrJ w5 g m f l0 b0 true l1 b1 a1 l2 b2 a2 false s1 s2 vl0 vb0 va0 vl1 vb1 va1 vl2 vb2 va2 wn):(wn.cell? ⟨g,0,none⟩=some m.vn∧wn.frozen? ⟨g,0,none⟩=false∧g<wn.heap.size∧∃ A n c,va0=.slice A n c)∧WrJ w5 g m f l0 b0 true l1 b1 a1 l2 b2 a2 true s1 s2 vl0 vb0 va0 vl1 vb1 va1 vl2 vb2 va2 (wn.setCell ⟨g,0,none⟩ va0):=by
 obtain ⟨hc,h0,h1,h2,hs⟩:=h;have hb:wn.heap[g]?=some _:=hs.1 _ List.mem_cons_self;have ho:Own pC 1 98 0 wn va0 ((m.ps.map some) ++ [none]):=hs.1 (ii pC 98 m.vn (m.ps.map some) none true va0) (by simp);refine ⟨⟨aa hb 0,ah hb 0,ab hb,dW ho⟩,⟨?_,h0.sto,h1,h2,?_⟩⟩
 ·exact hc.setCell (p:=⟨g,0,none⟩) (.inl rfl) _
 ·exact hs.upd (l1:=[]) (S:=fun k=>k=g) ((Ch.refl (fun k=>k=g) wn).setCell (p:=⟨g,0,none⟩) rfl _) (fun k hk=>hk) (b:=Ob.blk g (.cells #[bJ true va0 m.vn,bJ s1 va1 m.vs,bJ s2 va2 m.vw,.bool f.sure] 87 (0,0))) (ae hb 0 va0) (fun k hk=>.inl hk)
theorem WrJ.cell1 (h:WrJ w5 g m f l0 b0 a0 false b1 a1 l2 b2 a2 s0 s1 s2 vl0 vb0 va0 vl1 vb1 va1 vl2 vb2 va2 wn):wn.cell? ⟨g,1,none⟩=some m.vs∧g<wn.heap.size:=by obtain ⟨hc,h0,h1,h2,hs⟩:=h;have hb:wn.heap[g]?=some _:=hs.1 _ List.mem_cons_self;have hf:s1=false:=h1.free (h1.notA (.inl rfl));subst hf;exact ⟨aa hb 1,ab hb⟩
theorem WrJ.load1 (h:WrJ w5 g m f l0 b0 a0 false b1 a1 l2 b2 a2 s0 s1 s2 vl0 vb0 va0 vl1 vb1 va1 vl2 vb2 va2 wn):WrJ w5 g m f l0 b0 a0 true b1 a1 l2 b2 a2 s0 s1 s2 vl0 vb0 va0 m.vs vb1 va1 vl2 vb2 va2 wn:=by obtain ⟨hc,h0,h1,h2,hs⟩:=h;exact ⟨hc,h0,h1.load,h2,hs⟩
theorem WrJ.bld1 (h:WrJ w5 g m f l0 b0 a0 l1 false a1 l2 b2 a2 s0 s1 s2 vl0 vb0 va0 vl1 vb1 va1 vl2 vb2 va2 wn):WrJ w5 g m f l0 b0 a0 l1 true a1 l2 b2 a2 s0 s1 s2 vl0 vb0 va0 vl1 (.slice (some ⟨wn.heap.size,0,none⟩) 1 1) va1 vl2 vb2 va2 (wn.alloc (.cells #[.pointer none] 98)):=by obtain ⟨hc,h0,h1,h2,hs⟩:=h;have ha:a1=false:=h1.notA (.inr rfl);subst ha;exact ⟨hc.alloc _,h0,(h1.bld _),h2,jr (l1:=[Ob.blk g (.cells #[bJ s0 va0 m.vn,bJ s1 va1 m.vs,bJ s2 va2 m.vw,.bool f.sure] 87 (0,0)),ii pC 98 m.vn (m.ps.map some) none a0 va0,ii pC 98 m.vs m.qs none false va1,ii bC 4 m.vw f.waits false a2 va2,mw pC 98 none b0 a0 vb0]) hs rfl⟩
theorem WrJ.pre1 (h:WrJ w5 g m f l0 b0 a0 true true false l2 b2 a2 s0 s1 s2 vl0 vb0 va0 vl1 vb1 va1 vl2 vb2 va2 wn):vl1=m.vs∧Own pC 1 98 0 wn m.vs m.qs∧∃ gk,vb1=.slice (some ⟨gk,0,none⟩) 1 1∧Own pC 1 98 0 wn vb1 [none]:=by obtain ⟨hc,h0,h1,h2,hs⟩:=h;obtain ⟨gk,hg⟩:=h1.vb rfl;exact ⟨h1.vl rfl,hs.1 (ii pC 98 m.vs m.qs none false va1) (by simp),gk,hg,hs.1 (mw pC 98 none true false vb1) (by simp)⟩
theorem WrJ.app1 (h:WrJ w5 g m f l0 b0 a0 true true false l2 b2 a2 s0 s1 s2 vl0 vb0 va0 vl1 vb1 va1 vl2 vb2 va2 wn) (ho:Own pC 1 98 0 w6 v' (m.qs ++ [none])) (hg:wn.grownBy w6 m.vs.ownBlock) (hat:v'.ownBlock=m.vs.ownBlock∨v'.ownBlock=some wn.heap.size):WrJ w5 g m f l0 b0 a0 true true true l2 b2 a2 s0 s1 s2 vl0 vb0 va0 vl1 vb1 v' vl2 vb2 va2 w6:=by
 obtain ⟨hc,h0,h1,h2,hs⟩:=h;have hf:s1=false:=h1.free rfl;subst hf;refine ⟨?_,h0,(h1.app (hat.imp id fun e k hk=>?_)),h2,?_⟩
 ·exact hc.then (Ch.of_grown (S:=fun k=>m.vs.ownBlock=some k) hg fun k hk=>hk) fun k hk=>.inl (.inr (.inr (.inl hk)))
 ·rw [e] at hk;injection hk with hk;have:=hc.size;omega
 ·exact ox (l1:=[Ob.blk g (.cells #[bJ s0 va0 m.vn,bJ false va1 m.vs,bJ s2 va2 m.vw,.bool f.sure] 87 (0,0)),ii pC 98 m.vn (m.ps.map some) none a0 va0]) (l2:=[ii bC 4 m.vw f.waits false a2 va2,mw pC 98 none b0 a0 vb0]) hs ho hg hat
theorem WrJ.sto1 (h:WrJ w5 g m f l0 b0 a0 l1 b1 true l2 b2 a2 s0 false s2 vl0 vb0 va0 vl1 vb1 va1 vl2 vb2 va2 wn):(wn.cell? ⟨g,1,none⟩=some m.vs∧wn.frozen? ⟨g,1,none⟩=false∧g<wn.heap.size∧∃ A n c,va1=.slice A n c)∧WrJ w5 g m f l0 b0 a0 l1 b1 true l2 b2 a2 s0 true s2 vl0 vb0 va0 vl1 vb1 va1 vl2 vb2 va2 (wn.setCell ⟨g,1,none⟩ va1):=by
 obtain ⟨hc,h0,h1,h2,hs⟩:=h;have hb:wn.heap[g]?=some _:=hs.1 _ List.mem_cons_self;have ho:Own pC 1 98 0 wn va1 (m.qs ++ [none]):=hs.1 (ii pC 98 m.vs m.qs none true va1) (by simp);refine ⟨⟨aa hb 1,ah hb 1,ab hb,dW ho⟩,⟨?_,h0,h1.sto,h2,?_⟩⟩
 ·exact hc.setCell (p:=⟨g,1,none⟩) (.inl rfl) _
 ·exact hs.upd (l1:=[]) (S:=fun k=>k=g) ((Ch.refl (fun k=>k=g) wn).setCell (p:=⟨g,1,none⟩) rfl _) (fun k hk=>hk) (b:=Ob.blk g (.cells #[bJ s0 va0 m.vn,bJ true va1 m.vs,bJ s2 va2 m.vw,.bool f.sure] 87 (0,0))) (ae hb 1 va1) (fun k hk=>.inl hk)
theorem WrJ.cell2 (h:WrJ w5 g m f l0 b0 a0 l1 b1 a1 false b2 a2 s0 s1 s2 vl0 vb0 va0 vl1 vb1 va1 vl2 vb2 va2 wn):wn.cell? ⟨g,2,none⟩=some m.vw∧g<wn.heap.size:=by obtain ⟨hc,h0,h1,h2,hs⟩:=h;have hb:wn.heap[g]?=some _:=hs.1 _ List.mem_cons_self;have hf:s2=false:=h2.free (h2.notA (.inl rfl));subst hf;exact ⟨aa hb 2,ab hb⟩
theorem WrJ.load2 (h:WrJ w5 g m f l0 b0 a0 l1 b1 a1 false b2 a2 s0 s1 s2 vl0 vb0 va0 vl1 vb1 va1 vl2 vb2 va2 wn):WrJ w5 g m f l0 b0 a0 l1 b1 a1 true b2 a2 s0 s1 s2 vl0 vb0 va0 vl1 vb1 va1 m.vw vb2 va2 wn:=by obtain ⟨hc,h0,h1,h2,hs⟩:=h;exact ⟨hc,h0,h1,h2.load,hs⟩
theorem WrJ.bld2 (h:WrJ w5 g m f l0 b0 a0 l1 b1 a1 l2 false a2 s0 s1 s2 vl0 vb0 va0 vl1 vb1 va1 vl2 vb2 va2 wn):WrJ w5 g m f l0 b0 a0 l1 b1 a1 l2 true a2 s0 s1 s2 vl0 vb0 va0 vl1 vb1 va1 vl2 (.slice (some ⟨wn.heap.size,0,none⟩) 1 1) va2 (wn.alloc (.cells #[.bool false] 4)):=by obtain ⟨hc,h0,h1,h2,hs⟩:=h;have ha:a2=false:=h2.notA (.inr rfl);subst ha;exact ⟨hc.alloc _,h0,h1,(h2.bld _),jr (l1:=[Ob.blk g (.cells #[bJ s0 va0 m.vn,bJ s1 va1 m.vs,bJ s2 va2 m.vw,.bool f.sure] 87 (0,0)),ii pC 98 m.vn (m.ps.map some) none a0 va0,ii pC 98 m.vs m.qs none a1 va1,ii bC 4 m.vw f.waits false false va2,mw pC 98 none b0 a0 vb0,mw pC 98 none b1 a1 vb1]) hs rfl⟩
theorem WrJ.pre2 (h:WrJ w5 g m f l0 b0 a0 l1 b1 a1 true true false s0 s1 s2 vl0 vb0 va0 vl1 vb1 va1 vl2 vb2 va2 wn):vl2=m.vw∧Own bC 1 4 0 wn m.vw f.waits∧∃ gk,vb2=.slice (some ⟨gk,0,none⟩) 1 1∧Own bC 1 4 0 wn vb2 [false]:=by obtain ⟨hc,h0,h1,h2,hs⟩:=h;obtain ⟨gk,hg⟩:=h2.vb rfl;exact ⟨h2.vl rfl,hs.1 (ii bC 4 m.vw f.waits false false va2) (by simp),gk,hg,hs.1 (mw bC 4 false true false vb2) (by simp)⟩
theorem WrJ.app2 (h:WrJ w5 g m f l0 b0 a0 l1 b1 a1 true true false s0 s1 s2 vl0 vb0 va0 vl1 vb1 va1 vl2 vb2 va2 wn) (ho:Own bC 1 4 0 w6 v' (f.waits ++ [false])) (hg:wn.grownBy w6 m.vw.ownBlock) (hat:v'.ownBlock=m.vw.ownBlock∨v'.ownBlock=some wn.heap.size):WrJ w5 g m f l0 b0 a0 l1 b1 a1 true true true s0 s1 s2 vl0 vb0 va0 vl1 vb1 va1 vl2 vb2 v' w6:=by
 obtain ⟨hc,h0,h1,h2,hs⟩:=h;have hf:s2=false:=h2.free rfl;subst hf;refine ⟨?_,h0,h1,(h2.app (hat.imp id fun e k hk=>?_)),?_⟩
 ·exact hc.then (Ch.of_grown (S:=fun k=>m.vw.ownBlock=some k) hg fun k hk=>hk) fun k hk=>.inl (.inr (.inr (.inr hk)))
 ·rw [e] at hk;injection hk with hk;have:=hc.size;omega
 ·exact ox (l1:=[Ob.blk g (.cells #[bJ s0 va0 m.vn,bJ s1 va1 m.vs,bJ false va2 m.vw,.bool f.sure] 87 (0,0)),ii pC 98 m.vn (m.ps.map some) none a0 va0,ii pC 98 m.vs m.qs none a1 va1]) (l2:=[mw pC 98 none b0 a0 vb0,mw pC 98 none b1 a1 vb1]) hs ho hg hat
theorem WrJ.sto2 (h:WrJ w5 g m f l0 b0 a0 l1 b1 a1 l2 b2 true s0 s1 false vl0 vb0 va0 vl1 vb1 va1 vl2 vb2 va2 wn):(wn.cell? ⟨g,2,none⟩=some m.vw∧wn.frozen? ⟨g,2,none⟩=false∧g<wn.heap.size∧∃ A n c,va2=.slice A n c)∧WrJ w5 g m f l0 b0 a0 l1 b1 a1 l2 b2 true s0 s1 true vl0 vb0 va0 vl1 vb1 va1 vl2 vb2 va2 (wn.setCell ⟨g,2,none⟩ va2):=by
 obtain ⟨hc,h0,h1,h2,hs⟩:=h;have hb:wn.heap[g]?=some _:=hs.1 _ List.mem_cons_self;have ho:Own bC 1 4 0 wn va2 (f.waits ++ [false]):=hs.1 (ii bC 4 m.vw f.waits false true va2) (by simp);refine ⟨⟨aa hb 2,ah hb 2,ab hb,dW ho⟩,⟨?_,h0,h1,h2.sto,?_⟩⟩
 ·exact hc.setCell (p:=⟨g,2,none⟩) (.inl rfl) _
 ·exact hs.upd (l1:=[]) (S:=fun k=>k=g) ((Ch.refl (fun k=>k=g) wn).setCell (p:=⟨g,2,none⟩) rfl _) (fun k hk=>hk) (b:=Ob.blk g (.cells #[bJ s0 va0 m.vn,bJ s1 va1 m.vs,bJ true va2 m.vw,.bool f.sure] 87 (0,0))) (ae hb 2 va2) (fun k hk=>.inl hk)
end
end Go.Proofs.YtdmhbgpejppbkaaGreat
