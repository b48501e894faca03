/- A cache in memory: the ring's entries as a function of blocks; what a call may have turned. -/
import Derived.Test.YtjjiclbngoldaaaCaWalk
import Derived.Test.YtjjiclbngoldaaaOwn
import Derived.Deep.Draws
import Derived.Maps.OwnOps
import Derived.Maps.Views
import Derived.Below
namespace Go.Proofs.Ytjjiclbngoldaaa
open Go.RowKit Go.Maps

/-- What a call has turned of old memory lies in S. -/
structure Ch (S : Nat → Prop) (w w' : World) : Prop where
  os : w'.os = w.os
  tape : w'.tape = w.tape
  output : w'.output = w.output
  size : w.heap.size ≤ w'.heap.size
  block : ∀ k, k < w.heap.size → ¬ S k → w'.heap[k]? = w.heap[k]?
theorem Ch.refl (S : Nat → Prop) (w : World) : Ch S w w := ⟨rfl, rfl, rfl, Nat.le_refl _, fun _ _ _ => rfl⟩
theorem Ch.mono {S S' : Nat → Prop} {w w' : World} (h : Ch S w w') (hs : ∀ k, k < w.heap.size → S k → S' k) : Ch S' w w' := ⟨h.os, h.tape, h.output, h.size, fun k hk hn => h.block k hk fun hh => hn (hs k hk hh)⟩
theorem Ch.trans {S : Nat → Prop} {a b c : World} (h : Ch S a b) (k : Ch S b c) : Ch S a c :=
  ⟨k.os.trans h.os, k.tape.trans h.tape, k.output.trans h.output, Nat.le_trans h.size k.size, fun i hi hn => (k.block i (Nat.lt_of_lt_of_le hi h.size) hn).trans (h.block i hi hn)⟩
/-- the second step may turn what the first made -/
theorem Ch.then {S S' : Nat → Prop} {a b c : World} (h : Ch S a b) (k : Ch S' b c) (hs : ∀ i, S' i → S i ∨ a.heap.size ≤ i) : Ch S a c :=
  ⟨k.os.trans h.os, k.tape.trans h.tape, k.output.trans h.output, Nat.le_trans h.size k.size, fun i hi hn => (k.block i (Nat.lt_of_lt_of_le hi h.size) fun hh => (hs i hh).elim hn (by omega)).trans (h.block i hi hn)⟩
theorem Ch.of_below {S : Nat → Prop} {w w' : World} (h : Below w.heap.size w w') : Ch S w w' := ⟨h.os, h.tape, h.output, h.size, fun k hk _ => h.block k hk⟩
theorem Ch.of_grown {S : Nat → Prop} {w w' : World} {row : Option Nat} (h : w.grownBy w' row) (hr : ∀ k, row = some k → S k) : Ch S w w' := ⟨h.os, h.tape, h.output, h.size, fun k hk hn => h.block k hk fun e => hn (hr k e.symm)⟩
theorem Ch.below {S : Nat → Prop} {w w' : World} {B : Nat} (h : Ch S w w') (hB : B ≤ w.heap.size) (hs : ∀ k, S k → B ≤ k) : Below B w w' := ⟨h.os, h.tape, h.output, h.size, fun k hk => h.block k (by omega) fun hh => by have := hs k hh; omega⟩
theorem Ch.alloc {S : Nat → Prop} {a w : World} (h : Ch S a w) (o : Obj) : Ch S a (w.alloc o) := h.then (S' := fun _ => False) (Ch.of_below ((Below.refl _ w).alloc (Nat.le_refl _) o)) (fun _ h => h.elim)
theorem Ch.drew {S : Nat → Prop} {a w : World} (h : Ch S a w) : Ch S a w.drew := ⟨h.os, h.tape, h.output, h.size, h.block⟩
theorem Ch.drewN {S : Nat → Prop} {a w : World} (h : Ch S a w) (n : Nat) : Ch S a (w.drewN n) := ⟨h.os, h.tape, h.output, h.size, h.block⟩
theorem Ch.setCell {S : Nat → Prop} {a w : World} (h : Ch S a w) {p : Addr} (hp : S p.block) (u : Value) : Ch S a (w.setCell p u) :=
  h.trans ⟨rfl, rfl, rfl, by simp [World.setCell], fun k _ hn => Below.heap_setCell _ _ _ _ (fun e => hn (e ▸ hp))⟩
theorem Ch.eqv {S : Nat → Prop} {a w w' : World} (h : Ch S a w) (he : Eqv w' w) : Ch S a w' := ⟨he.os.trans h.os, he.tape.trans h.tape, he.output.trans h.output, by rw [he.heap]; exact h.size, fun k hk hn => by rw [he.heap]; exact h.block k hk hn⟩
theorem Ch.keep {S : Nat → Prop} {w w' : World} {g : Nat} {o : Obj} (h : Ch S w w') (hg : w.heap[g]? = some o) (hn : ¬ S g) : w'.heap[g]? = some o :=
  (h.block g (by rcases Nat.lt_or_ge g w.heap.size with hlt | hge; exact hlt; rw [Array.getElem?_eq_none hge] at hg; cases hg) hn).trans hg
theorem Ch.cell {S : Nat → Prop} {w w' : World} {a : Addr} {v : Value} (h : Ch S w w') (hg : w.cell? a = some v) (hn : ¬ S a.block) : w'.cell? a = some v :=
  (World.cell?_of_block (h.block a.block (World.block_lt_of_cell? w a hg) hn)).trans hg

theorem lt_of_heap {w : World} {g : Nat} {o : Obj} (h : w.heap[g]? = some o) : g < w.heap.size := (Array.getElem?_eq_some_iff.1 h).1

/-- An entry's block. -/
def ent (e : En) : Obj := .cells #[.int .i64 e.n, .string e.s, .bool e.d, .pointer (some ⟨e.o, 0, none⟩), .pointer (some ⟨e.x, 0, none⟩)] 55 (0, 0)
def MemE (S : Nat → Prop) (w : World) (E : Nat → En) : Prop := ∀ g, S g → w.heap[g]? = some (ent (E g))

section
variable {S : Nat → Prop} {w w' : World} {E : Nat → En} {g : Nat}
theorem MemE.cell (h : MemE S w E) (hg : S g) (i : Nat) : w.cell? ⟨g, i, none⟩ = (#[.int .i64 (E g).n, .string (E g).s, .bool (E g).d, .pointer (some ⟨(E g).o, 0, none⟩), .pointer (some ⟨(E g).x, 0, none⟩)] : Array Value)[i]? := by
  simp [World.cell?, h g hg, ent]
theorem MemE.frozen (h : MemE S w E) (hg : S g) (i : Nat) : w.frozen? ⟨g, i, none⟩ = false := by
  simp [World.frozen?, h g hg, ent]
theorem MemE.lt (h : MemE S w E) (hg : S g) : g < w.heap.size := lt_of_heap (h g hg)
theorem MemE.eqv (h : MemE S w E) (he : Eqv w' w) : MemE S w' E := fun g hg => by rw [he.heap]; exact h g hg
theorem MemE.ch {S' : Nat → Prop} (h : MemE S w E) (hc : Ch S' w w') (hd : ∀ g, S g → ¬ S' g) : MemE S w' E := fun g hg => hc.keep (h g hg) (hd g hg)
theorem MemE.setx (h : MemE S w E) (hg : S g) (v : Nat) : MemE S (w.setCell ⟨g, 4, none⟩ (.pointer (some ⟨v, 0, none⟩))) (setx E g v) := fun k hk => by
  unfold Ytjjiclbngoldaaa.setx
  by_cases e : k = g
  · subst e
    rw [if_pos rfl]
    simp [World.setCell, Array.getElem?_modify, h k hk, ent]
  · rw [if_neg e, Below.heap_setCell _ _ _ _ e]
    exact h k hk
theorem MemE.seto (h : MemE S w E) (hg : S g) (v : Nat) : MemE S (w.setCell ⟨g, 3, none⟩ (.pointer (some ⟨v, 0, none⟩))) (seto E g v) := fun k hk => by
  unfold Ytjjiclbngoldaaa.seto
  by_cases e : k = g
  · subst e
    rw [if_pos rfl]
    simp [World.setCell, Array.getElem?_modify, h k hk, ent]
  · rw [if_neg e, Below.heap_setCell _ _ _ _ e]
    exact h k hk
def setd (E : Nat → En) (g : Nat) (v : Bool) : Nat → En := fun k => if k = g then { E k with d := v } else E k
theorem MemE.setd (h : MemE S w E) (hg : S g) (v : Bool) : MemE S (w.setCell ⟨g, 2, none⟩ (.bool v)) (setd E g v) := fun k hk => by
  unfold Ytjjiclbngoldaaa.setd
  by_cases e : k = g
  · subst e
    rw [if_pos rfl]
    simp [World.setCell, Array.getElem?_modify, h k hk, ent]
  · rw [if_neg e, Below.heap_setCell _ _ _ _ e]
    exact h k hk
end

theorem out_any (S : Nat → Prop) (E : Nat → En) (g : Nat) (w : World) (h : MemE S w E) (hg : S g) (ho : S (E g).o) (hx : S (E g).x) :
    Calls Try.prog 25 #[.pointer (some ⟨g, 0, none⟩)] w fun e w' => e = .returned (.tuple #[]) ∧ MemE S w' (seto (setx E (E g).o (E g).x) (E g).x (E g).o) ∧ Ch (fun k => k = (E g).o ∨ k = (E g).x) w w' :=
  (out_walk g (E g).o (E g).x _ _ w (h.cell hg 3) (h.cell hg 4) (h.cell ho 4) (h.cell hx 3) (h.frozen ho 4) (h.frozen hx 3)).mono fun _ _ ⟨he, hw⟩ =>
    ⟨he, ((h.setx ho _).seto hx _).eqv hw, (((Ch.refl _ w).setCell (p := ⟨(E g).o, 4, none⟩) (.inl rfl) _).setCell (p := ⟨(E g).x, 3, none⟩) (.inr rfl) _).eqv hw⟩

theorem use_any (S : Nat → Prop) (E : Nat → En) (c g r : Nat) (w : World) (h : MemE S w E) (hc : w.cell? ⟨c, 1, none⟩ = some (.pointer (some ⟨r, 0, none⟩))) (hg : S g) (hr : S r) (hl : S (E r).o) (hlg : (E r).o ≠ g) (hrg : r ≠ g) :
    Calls Try.prog 23 #[.pointer (some ⟨c, 0, none⟩), .pointer (some ⟨g, 0, none⟩)] w fun e w' => e = .returned (.tuple #[]) ∧
      MemE S w' (seto (setx (setx (seto E g (E r).o) g r) (E r).o g) r g) ∧ Ch (fun k => k = g ∨ k = (E r).o ∨ k = r) w w' :=
  (use_walk c g r (E r).o _ _ _ w hc (h.cell hr 3) (h.cell hg 3) (h.cell hg 4) (h.cell hl 4) (h.frozen hg 3) (h.frozen hg 4) (h.frozen hl 4) (h.frozen hr 3) hlg hrg).mono fun _ _ ⟨he, hw⟩ =>
    ⟨he, ((((h.seto hg _).setx hg _).setx hl _).seto hr _).eqv hw,
      (((((Ch.refl _ w).setCell (p := ⟨g, 3, none⟩) (.inl rfl) _).setCell (p := ⟨g, 4, none⟩) (.inl rfl) _).setCell (p := ⟨(E r).o, 4, none⟩) (.inr (.inl rfl)) _).setCell (p := ⟨r, 3, none⟩) (.inr (.inr rfl)) _).eqv hw⟩
end Go.Proofs.Ytjjiclbngoldaaa
