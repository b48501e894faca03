/- The walks of a cache's Clear and New. -/
import Derived.Test.YtjjiclbngoldaaaCaPut
namespace Go.Proofs.Ytjjiclbngoldaaa
open Go.RowKit Go.Maps

theorem put_nil (n : Int) (s : ByteArray) (d : Bool) (w : World) : Calls Try.prog 8 #[.pointer none, .int .i64 n, .string s, .bool d] w fun e w' => e = .returned (.slice none 0 0) ∧ w = w' := by
  go_enter Try.func8, Try.ntmps8
  go_wp2_with fail
  go_ret
  exact ⟨rfl, rfl⟩

def ClearP (gc : Nat) (size : Int) (w : World) (e : Ending) (w' : World) : Prop := e = .returned (.tuple #[]) ∧ ∃ gr gm E, CaIs w' gc gr gm size [] E ∧ w.heap.size ≤ gr ∧ w.heap.size ≤ gm ∧ Ch (fun k => k = gc) w w'

set_option maxRecDepth 100000 in
set_option maxHeartbeats 1000000 in
theorem clear_is (gc : Nat) (size : Int) (u v : Value) (w : World) (h : w.heap[gc]? = some (.cells #[.int .i64 size, u, v] 53 (0, 0))) :
    Calls Try.prog 21 #[.pointer (some ⟨gc, 0, none⟩)] w (ClearP gc size w) := by
  have hlt := lt_of_heap h
  have hmm := @run_makeMap Try.prog
  have c1 : w.cell? ⟨gc, 1, none⟩ = some u := by simp [World.cell?, h]
  have f1 : w.frozen? ⟨gc, 1, none⟩ = false := by simp [World.frozen?, h]
  have HB := Lib.hid h
  clear h
  go_enter Try.func21, Try.ntmps21
  go_wp2_with fail
  have hx : (w.setCell ⟨gc, 1, none⟩ (.pointer (some ⟨w.heap.size, 0, none⟩))).heap[gc]? = some (.cells #[.int .i64 size, .pointer (some ⟨w.heap.size, 0, none⟩), v] 53 (0, 0)) := by
    simp [World.setCell, Array.getElem?_modify, HB.out]
  have hc1 : Ch (fun k => k = gc) w ((w.setCell ⟨gc, 1, none⟩ (.pointer (some ⟨w.heap.size, 0, none⟩))).alloc (.cells #[.int .i64 0, .string ⟨#[]⟩, .bool false, .pointer none, .pointer none] 55)) := ((Ch.refl (fun k => k = gc) w).setCell (p := ⟨gc, 1, none⟩) rfl _).alloc _
  have hr1 : ((w.setCell ⟨gc, 1, none⟩ (.pointer (some ⟨w.heap.size, 0, none⟩))).alloc (.cells #[.int .i64 0, .string ⟨#[]⟩, .bool false, .pointer none, .pointer none] 55)).heap[w.heap.size]? = some (.cells #[.int .i64 0, .string ⟨#[]⟩, .bool false, .pointer none, .pointer none] 55 (0, 0)) := by
    have := heap_alloc_new (w.setCell ⟨gc, 1, none⟩ (.pointer (some ⟨w.heap.size, 0, none⟩))) (.cells #[.int .i64 0, .string ⟨#[]⟩, .bool false, .pointer none, .pointer none] 55)
    rwa [World.size_setCell] at this
  have hg1 : ((w.setCell ⟨gc, 1, none⟩ (.pointer (some ⟨w.heap.size, 0, none⟩))).alloc (.cells #[.int .i64 0, .string ⟨#[]⟩, .bool false, .pointer none, .pointer none] 55)).heap[gc]? = some (.cells #[.int .i64 size, .pointer (some ⟨w.heap.size, 0, none⟩), v] 53 (0, 0)) := (Below.heap_alloc _ _ _ (by rw [World.size_setCell]; exact hlt)).trans hx
  have HC1 := Lib.hid hc1
  clear hx c1 f1 hlt hc1
  generalize ((w.setCell ⟨gc, 1, none⟩ (.pointer (some ⟨w.heap.size, 0, none⟩))).alloc (.cells #[.int .i64 0, .string ⟨#[]⟩, .bool false, .pointer none, .pointer none] 55)) = w1 at *
  have HGR := Lib.hid (Nat.le_refl w.heap.size)
  have HNE := Lib.hid (show w.heap.size ≠ gc by have := lt_of_heap HB.out; omega)
  generalize hgr : w.heap.size = gr at hr1 hg1 HNE ⊢
  have HG := Lib.hid hgr
  have HR1 := Lib.hid hr1
  have HG1 := Lib.hid hg1
  have c1 : w1.cell? ⟨gc, 1, none⟩ = some (.pointer (some ⟨gr, 0, none⟩)) := by simp [World.cell?, hg1]
  have r3 : w1.cell? ⟨gr, 3, none⟩ = some (.pointer none) := by simp [World.cell?, hr1]
  have r4 : w1.cell? ⟨gr, 4, none⟩ = some (.pointer none) := by simp [World.cell?, hr1]
  have f3 : w1.frozen? ⟨gr, 3, none⟩ = false := by simp [World.frozen?, hr1]
  have f4 : w1.frozen? ⟨gr, 4, none⟩ = false := by simp [World.frozen?, hr1]
  have hne1 := HNE.out
  have hne2 : gc ≠ gr := fun e => HNE.out e.symm
  clear hr1 hg1 hgr
  go_region
  have hc2 : Ch (fun k => k = gr) w1 ((w1.setCell ⟨gr, 3, none⟩ (.pointer (some ⟨gr, 0, none⟩))).setCell ⟨gr, 4, none⟩ (.pointer (some ⟨gr, 0, none⟩))) := ((Ch.refl (fun k => k = gr) w1).setCell (p := ⟨gr, 3, none⟩) rfl _).setCell (p := ⟨gr, 4, none⟩) rfl _
  have hr2 : ((w1.setCell ⟨gr, 3, none⟩ (.pointer (some ⟨gr, 0, none⟩))).setCell ⟨gr, 4, none⟩ (.pointer (some ⟨gr, 0, none⟩))).heap[gr]? = some (ent ⟨0, ⟨#[]⟩, false, gr, gr⟩) := by
    simp [World.setCell, Array.getElem?_modify, HR1.out, ent]
  have HR2 := Lib.hid hr2
  have HC2 := Lib.hid hc2
  clear c1 r3 r4 f3 f4 hr2 hc2
  generalize (w1.setCell ⟨gr, 3, none⟩ (.pointer (some ⟨gr, 0, none⟩))).setCell ⟨gr, 4, none⟩ (.pointer (some ⟨gr, 0, none⟩)) = w2 at *
  have hg2 := HC2.out.keep HG1.out (fun e => HNE.out e.symm)
  have HG2 := Lib.hid hg2
  have c2 : w2.cell? ⟨gc, 2, none⟩ = some v := by simp [World.cell?, hg2]
  have f2 : w2.frozen? ⟨gc, 2, none⟩ = false := by simp [World.frozen?, hg2]
  have hlt2 := lt_of_heap hg2
  clear hg2
  go_wp2_with fail
  go_end0
  have hch : Ch (fun k => k = gc) w ((w2.setCell ⟨gc, 2, none⟩ (.map (some w2.heap.size))).alloc (.map #[] 0)).drew :=
    (((HC1.out.then HC2.out (fun k e => .inr (by rw [e, ← HG.out]; exact Nat.le_refl _))).setCell (p := ⟨gc, 2, none⟩) rfl _).alloc _).drew
  have hbc : (w2.setCell ⟨gc, 2, none⟩ (.map (some w2.heap.size))).heap[gc]? = some (.cells #[.int .i64 size, .pointer (some ⟨gr, 0, none⟩), .map (some w2.heap.size)] 53 (0, 0)) := by
    simp [World.setCell, Array.getElem?_modify, HG2.out]
  have hlg := lt_of_heap HG2.out
  have hlr := lt_of_heap HR2.out
  have hmade := MapIs.made (w2.setCell ⟨gc, 2, none⟩ (.map (some w2.heap.size)))
  rw [World.size_setCell] at hmade
  refine ⟨rfl, gr, w2.heap.size, fun _ => ⟨0, ⟨#[]⟩, false, gr, gr⟩, ⟨?_, ?_, ⟨rfl, rfl⟩, ?_, hmade.block rfl, fun g hg => by cases hg⟩, by rw [HG.out]; exact Nat.le_refl _, Nat.le_trans HC1.out.size HC2.out.size, hch⟩
  · exact (Below.heap_alloc _ _ _ (by rw [World.size_setCell]; exact hlg)).trans hbc
  · intro g hg
    simp only [List.mem_cons, List.not_mem_nil, or_false] at hg
    subst hg
    exact (Below.heap_alloc _ _ _ (by rw [World.size_setCell]; exact hlr)).trans ((Below.heap_setCell _ _ _ _ HNE.out).trans HR2.out)
  · have := HNE.out
    simp only [List.nodup_cons, List.mem_cons, List.not_mem_nil, or_false, not_or]
    exact ⟨⟨by omega, fun e => this e.symm⟩, by omega, id, List.Pairwise.nil⟩

def szC (n : Int) : Int := min (max n 1) 256
theorem szC_bd (n : Int) : 1 ≤ szC n ∧ szC n ≤ 256 := by unfold szC; omega
def NewP (n : Int) (w : World) (e : Ending) (w' : World) : Prop := ∃ gc gr gm E, e = .returned (.pointer (some ⟨gc, 0, none⟩)) ∧ CaIs w' gc gr gm (szC n) [] E ∧ w.heap.size ≤ gc ∧ w.heap.size ≤ gr ∧ w.heap.size ≤ gm ∧ Below w.heap.size w w'
set_option maxRecDepth 100000 in
set_option maxHeartbeats 1000000 in
theorem new_is (n : Int) (w : World) : Calls Try.prog 7 #[.int .i64 n] w (NewP n w) := by
  go_enter Try.func7, Try.ntmps7
  go_wp2_with fail
  all_goals
    refine (clear_is _ _ _ _ _ (heap_alloc_new _ _)).mono ?_
    rintro e w1 ⟨rfl, gr, gm, E, hca, h1, h2, hch⟩
    have HCA := Lib.hid hca
    have HB := Lib.hid (((Below.refl w.heap.size w).alloc (Nat.le_refl _) _).trans (hch.below (by simp) (fun k e => by rw [e]; exact Nat.le_refl _)))
    simp only [World.size_alloc] at h1 h2
    clear hca hch
    go_wp2_with fail
    go_ret
    refine ⟨_, gr, gm, E, rfl, ?_, Nat.le_refl _, by omega, by omega, HB.out⟩
    have := HCA.out
    rw [show szC n = _ from ?_]
    · exact this
    · unfold szC; omega
end Go.Proofs.Ytjjiclbngoldaaa
