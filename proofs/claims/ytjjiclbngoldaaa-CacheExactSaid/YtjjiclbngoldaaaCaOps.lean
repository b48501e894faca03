/- The walks of a cache's found, Get, Forget, Clean, Len. -/
import Derived.Test.YtjjiclbngoldaaaCaMap
namespace Go.Proofs.Ytjjiclbngoldaaa
open Go.RowKit Go.Maps

/-- The cache at block gc: its root, its map, its entries in the order of their use. -/
structure CaIs (w : World) (gc gr gm : Nat) (size : Int) (gs : List Nat) (E : Nat → En) : Prop where
  bc : w.heap[gc]? = some (.cells #[.int .i64 size, .pointer (some ⟨gr, 0, none⟩), .map (some gm)] 53 (0, 0))
  mem : MemE (fun g => g ∈ gr :: gs) w E
  seg : Seg E gr gs gr
  nd : (gc :: gm :: gr :: gs).Nodup
  map : MapIs w gm (gs.map fun g => ((E g).n, g))
  wf : ∀ g ∈ gs, wfI (E g).n

section
variable {w w' : World} {gc gr gm : Nat} {size : Int} {gs : List Nat} {E : Nat → En}
theorem CaIs.cell (h : CaIs w gc gr gm size gs E) (i : Nat) : w.cell? ⟨gc, i, none⟩ = (#[.int .i64 size, .pointer (some ⟨gr, 0, none⟩), .map (some gm)] : Array Value)[i]? := by
  simp [World.cell?, h.bc]
theorem CaIs.ch {S : Nat → Prop} (h : CaIs w gc gr gm size gs E) (hc : Ch S w w') (hd : ∀ g, g ∈ gc :: gm :: gr :: gs → ¬ S g) : CaIs w' gc gr gm size gs E :=
  ⟨hc.keep h.bc (hd gc (by simp)), h.mem.ch hc (fun g hg => hd g (by simp only [List.mem_cons] at hg ⊢; exact .inr (.inr hg))), h.seg, h.nd, h.map.ch hc (hd gm (by simp)), h.wf⟩
theorem keys_mem {n : Int} {b : Nat} (hg : b ∈ gs) (hn : (E b).n = n) : (n, b) ∈ gs.map (fun g => ((E g).n, g)) := List.mem_map.2 ⟨b, hg, by rw [hn]⟩
theorem keys_no {n : Int} (h : ∀ g ∈ gs, (E g).n ≠ n) : n ∉ (gs.map (fun g => ((E g).n, g))).map (·.1) := by
  rw [List.map_map]
  intro hm
  obtain ⟨g, hg, e⟩ := List.mem_map.1 hm
  exact h g hg e
theorem CaIs.key_inj (h : CaIs w gc gr gm size gs E) {a b : Nat} (ha : a ∈ gs) (hb : b ∈ gs) (he : (E a).n = (E b).n) : a = b := by
  have hnd := h.map.nd
  rw [List.map_map] at hnd
  clear h
  induction gs with
  | nil => cases ha
  | cons g gs ih =>
    rw [List.map_cons, List.nodup_cons] at hnd
    rcases List.mem_cons.1 ha with ea | ha1 <;> rcases List.mem_cons.1 hb with eb | hb1
    · rw [ea, eb]
    · subst ea; exact (hnd.1 (List.mem_map.2 ⟨b, hb1, he.symm⟩)).elim
    · subst eb; exact (hnd.1 (List.mem_map.2 ⟨a, ha1, he⟩)).elim
    · exact ih ha1 hb1 hnd.2
end

theorem found_nil (n : Int) (w : World) : Calls Try.prog 24 #[.pointer none, .int .i64 n] w fun e w' => e = .returned (.pointer none) ∧ w = w' := by
  go_enter Try.func24, Try.ntmps24
  go_wp2
  go_ret
  exact ⟨rfl, rfl⟩

set_option maxRecDepth 100000 in
theorem found_yes {gc gr gm : Nat} {size : Int} {gs : List Nat} {E : Nat → En} (n : Int) (b : Nat) (w : World) (h : CaIs w gc gr gm size gs E) (hb : b ∈ gs) (hn : (E b).n = n) :
    Calls Try.prog 24 #[.pointer (some ⟨gc, 0, none⟩), .int .i64 n] w fun e w' => e = .returned (.pointer (some ⟨b, 0, none⟩)) ∧ w = w' := by
  have c2 := h.cell 2
  have hrun := h.map.look_yes (n := n) (b := b) (hn ▸ h.wf b hb) (keys_mem hb hn)
  clear h hb hn
  go_enter Try.func24, Try.ntmps24
  go_wp2
  go_ret
  exact ⟨rfl, rfl⟩
set_option maxRecDepth 100000 in
theorem found_no {gc gr gm : Nat} {size : Int} {gs : List Nat} {E : Nat → En} (n : Int) (w : World) (h : CaIs w gc gr gm size gs E) (hw : wfI n) (hn : ∀ g ∈ gs, (E g).n ≠ n) :
    Calls Try.prog 24 #[.pointer (some ⟨gc, 0, none⟩), .int .i64 n] w fun e w' => e = .returned (.pointer none) ∧ w = w' := by
  have c2 := h.cell 2
  have hrun := h.map.look_no (n := n) hw (keys_no hn)
  clear h hn hw
  go_enter Try.func24, Try.ntmps24
  go_wp2
  go_ret
  exact ⟨rfl, rfl⟩

set_option maxRecDepth 100000 in
theorem len_is {gc gr gm : Nat} {size : Int} {gs : List Nat} {E : Nat → En} (w : World) (h : CaIs w gc gr gm size gs E) :
    Calls Try.prog 12 #[.pointer (some ⟨gc, 0, none⟩)] w fun e w' => e = .returned (.int .i64 gs.length) ∧ w = w' := by
  have c2 := h.cell 2
  have hrun := fun ty => h.map.len ty
  rw [List.length_map] at hrun
  clear h
  go_enter Try.func12, Try.ntmps12
  go_wp2
  go_ret
  exact ⟨rfl, rfl⟩
theorem len_nil (w : World) : Calls Try.prog 12 #[.pointer none] w fun e w' => e = .returned (.int .i64 0) ∧ w = w' := by
  go_enter Try.func12, Try.ntmps12
  go_wp2
  go_ret
  exact ⟨rfl, rfl⟩
end Go.Proofs.Ytjjiclbngoldaaa
