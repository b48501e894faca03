/- A cache in memory: the ring's entries as a function of blocks; what a call may have turned. -/
import Derived.Test.YtdmhbgpejppbkaaGreatXGah
import Derived.Test.YtdmhbgpejppbkaaGreatXGad
import Derived.Deep.Draws
import Derived.Maps.OwnOps
import Derived.Maps.Views
import Derived.Below
namespace Go.Proofs.YtdmhbgpejppbkaaGreat
open Go.RowKit Go.Maps
theorem Ch.eqv {S:Nat→Prop} {a w w':World} (h:Ch S a w) (he:Eqv w' w):Ch S a w':=⟨he.os.trans h.os,he.tape.trans h.tape,he.output.trans h.output,by rw [he.heap];exact h.size,fun k hk hn=>by rw [he.heap];exact h.block k hk hn⟩
theorem aO {w:World} {g:Nat} {o:Obj} (h:w.heap[g]?=some o):g<w.heap.size:=(Array.getElem?_eq_some_iff.1 h).1
def vu (e:En):Obj:=.cells #[.int .i64 e.n,.string e.s,.bool e.d,.pointer (some ⟨e.o,0,none⟩),.pointer (some ⟨e.x,0,none⟩)] 175 (0,0)
def MemE (S:Nat→Prop) (w:World) (E:Nat→En):Prop:=∀ g,S g→w.heap[g]?=some (vu (E g))
section
variable {S:Nat→Prop} {w w':World} {E:Nat→En} {g:Nat}
theorem MemE.cell (h:MemE S w E) (hg:S g) (i:Nat):w.cell? ⟨g,i,none⟩=(#[.int .i64 (E g).n,.string (E g).s,.bool (E g).d,.pointer (some ⟨(E g).o,0,none⟩),.pointer (some ⟨(E g).x,0,none⟩)]:Array Value)[i]?:=by simp [World.cell?,h g hg,vu]
theorem MemE.frozen (h:MemE S w E) (hg:S g) (i:Nat):w.frozen? ⟨g,i,none⟩=false:=by simp [World.frozen?,h g hg,vu]
theorem MemE.lt (h:MemE S w E) (hg:S g):g<w.heap.size:=aO (h g hg)
theorem MemE.eqv (h:MemE S w E) (he:Eqv w' w):MemE S w' E:=fun g hg=>by rw [he.heap];exact h g hg
theorem MemE.ch {S':Nat→Prop} (h:MemE S w E) (hc:Ch S' w w') (hd:∀ g,S g→¬ S' g):MemE S w' E:=fun g hg=>hc.keep (h g hg) (hd g hg)
theorem MemE.setx (h:MemE S w E) (hg:S g) (v:Nat):MemE S (w.setCell ⟨g,4,none⟩ (.pointer (some ⟨v,0,none⟩))) (setx E g v):=fun k hk=>by
 unfold YtdmhbgpejppbkaaGreat.setx;by_cases e:k=g
 ·subst e;rw [if_pos rfl];simp [World.setCell,Array.getElem?_modify,h k hk,vu]
 ·rw [if_neg e,Below.heap_setCell _ _ _ _ e];exact h k hk
theorem MemE.seto (h:MemE S w E) (hg:S g) (v:Nat):MemE S (w.setCell ⟨g,3,none⟩ (.pointer (some ⟨v,0,none⟩))) (seto E g v):=fun k hk=>by
 unfold YtdmhbgpejppbkaaGreat.seto;by_cases e:k=g
 ·subst e;rw [if_pos rfl];simp [World.setCell,Array.getElem?_modify,h k hk,vu]
 ·rw [if_neg e,Below.heap_setCell _ _ _ _ e];exact h k hk
def setd (E:Nat→En) (g:Nat) (v:Bool):Nat→En:=fun k=>if k=g then { E k with d:=v } else E k
theorem MemE.setd (h:MemE S w E) (hg:S g) (v:Bool):MemE S (w.setCell ⟨g,2,none⟩ (.bool v)) (setd E g v):=fun k hk=>by
 unfold YtdmhbgpejppbkaaGreat.setd;by_cases e:k=g
 ·subst e;rw [if_pos rfl];simp [World.setCell,Array.getElem?_modify,h k hk,vu]
 ·rw [if_neg e,Below.heap_setCell _ _ _ _ e];exact h k hk
end
theorem tc (S:Nat→Prop) (E:Nat→En) (g:Nat) (w:World) (h:MemE S w E) (hg:S g) (ho:S (E g).o) (hx:S (E g).x):
  Calls Tryz.prog 175 #[.pointer (some ⟨g,0,none⟩)] w fun e w'=>e=.returned (.tuple #[])∧MemE S w' (seto (setx E (E g).o (E g).x) (E g).x (E g).o)∧Ch (fun k=>k=(E g).o∨k=(E g).x) w w':=
 (vU g (E g).o (E g).x _ _ w (h.cell hg 3) (h.cell hg 4) (h.cell ho 4) (h.cell hx 3) (h.frozen ho 4) (h.frozen hx 3)).mono fun _ _ ⟨he,hw⟩=>
   ⟨he,((h.setx ho _).seto hx _).eqv hw,(((Ch.refl _ w).setCell (p:=⟨(E g).o,4,none⟩) (.inl rfl) _).setCell (p:=⟨(E g).x,3,none⟩) (.inr rfl) _).eqv hw⟩
theorem xS (S:Nat→Prop) (E:Nat→En) (c g r:Nat) (w:World) (h:MemE S w E) (hc:w.cell? ⟨c,1,none⟩=some (.pointer (some ⟨r,0,none⟩))) (hg:S g) (hr:S r) (hl:S (E r).o) (hlg:(E r).o≠g) (hrg:r≠g):
  Calls Tryz.prog 183 #[.pointer (some ⟨c,0,none⟩),.pointer (some ⟨g,0,none⟩)] w fun e w'=>e=.returned (.tuple #[])∧
   MemE S w' (seto (setx (setx (seto E g (E r).o) g r) (E r).o g) r g)∧Ch (fun k=>k=g∨k=(E r).o∨k=r) w w':=
 (pt c g r (E r).o _ _ _ w hc (h.cell hr 3) (h.cell hg 3) (h.cell hg 4) (h.cell hl 4) (h.frozen hg 3) (h.frozen hg 4) (h.frozen hl 4) (h.frozen hr 3) hlg hrg).mono fun _ _ ⟨he,hw⟩=>
   ⟨he,((((h.seto hg _).setx hg _).setx hl _).seto hr _).eqv hw,
     (((((Ch.refl _ w).setCell (p:=⟨g,3,none⟩) (.inl rfl) _).setCell (p:=⟨g,4,none⟩) (.inl rfl) _).setCell (p:=⟨(E r).o,4,none⟩) (.inr (.inl rfl)) _).setCell (p:=⟨r,3,none⟩) (.inr (.inr rfl)) _).eqv hw⟩
end Go.Proofs.YtdmhbgpejppbkaaGreat
