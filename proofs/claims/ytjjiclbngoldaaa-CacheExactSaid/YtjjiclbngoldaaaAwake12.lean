/- cahierlaw12.awake is true. -/
import Derived.Test.YtjjiclbngoldaaaCaTop
namespace Go.Proofs.Ytjjiclbngoldaaa
open Go.RowKit Go.Maps

def bA : ByteArray := ⟨#[97]⟩
def bB : ByteArray := ⟨#[98]⟩
def bC : ByteArray := ⟨#[99]⟩
def bD : ByteArray := ⟨#[100]⟩
theorem aw1 : putL 2 1 bA true [] = ([(1, bA, true)], []) := rfl
theorem aw2 : putL 2 2 bB false [(1, bA, true)] = ([(1, bA, true), (2, bB, false)], []) := rfl
theorem aw3 : getL 1 [(1, bA, true), (2, bB, false)] = [(2, bB, false), (1, bA, true)] := rfl
theorem aw3' : getR 1 [(1, bA, true), (2, bB, false)] = (⟨#[97]⟩, true) := rfl
theorem aw4 : putL 2 3 bC false [(2, bB, false), (1, bA, true)] = ([(1, bA, true), (3, bC, false)], []) := rfl
theorem aw5 : putL 2 4 bD false [(1, bA, true), (3, bC, false)] = ([(3, bC, false), (4, bD, false)], [⟨1, bA⟩]) := rfl
theorem aw6 : dirtyL [(3, bC, false), (4, bD, false)] = [] := by unfold dirtyL; simp
theorem wf_small (n : Int) (h0 : 0 ≤ n) (h1 : n ≤ 1000) : wfI n := WalkArith.wf_i64 (by omega)

set_option maxRecDepth 100000 in
set_option maxHeartbeats 1000000 in
theorem awake12_any (w : World) : Calls Try.prog 6 #[] w fun e w' => e = .returned (.bool true) ∧ Below w.heap.size w w' := by
  go_enter Try.func6, Try.ntmps6
  go_wp2_with fail
  refine (ca_new 2 w).mono ?_
  rintro e w1 ⟨v, F1, rfl, hca, hf, hb⟩
  obtain ⟨a, rfl⟩ := hca.ptr
  have HF1 := Lib.hid hf
  have HB1 := Lib.hid hb
  have HC1 := Lib.hid (show Ca w1 F1 (.pointer (some a)) 2 [] from hca)
  clear hca hf hb
  go_wp2_with fail
  refine (ca_put 1 bA true w1 HC1.out (wf_small _ (by omega) (by omega)) (by omega) (by omega)).mono ?_
  rintro e w2 ⟨r2, F2, rfl, hca, hs, -, -, hf, hch⟩
  rw [aw1] at hca hs
  obtain ⟨A2, c2, rfl⟩ := Sl.len' hs
  have HC2 := Lib.hid hca
  have HS2 := Lib.hid hs
  have HF2 := Lib.hid (show ∀ k, F2 k → w.heap.size ≤ k from fun k hk => (hf k hk).elim (HF1.out k) (fun h => Nat.le_trans HB1.out.size h))
  have HB2 := Lib.hid (HB1.out.trans (hch.below HB1.out.size HF1.out))
  clear hca hs hf hch
  go_wp2_with fail
  refine (ca_put 2 bB false w2 HC2.out (wf_small _ (by omega) (by omega)) (by omega) (by omega)).mono ?_
  rintro e w3 ⟨r3, F3, rfl, hca, hs, -, -, hf, hch⟩
  rw [aw2] at hca hs
  obtain ⟨A3, c3, rfl⟩ := Sl.len' hs
  have HC3 := Lib.hid hca
  have HS3 := Lib.hid hs
  have HF3 := Lib.hid (show ∀ k, F3 k → w.heap.size ≤ k from fun k hk => (hf k hk).elim (HF2.out k) (fun h => Nat.le_trans HB2.out.size h))
  have HB3 := Lib.hid (HB2.out.trans (hch.below HB2.out.size HF2.out))
  clear hca hs hf hch
  go_wp2_with fail
  refine (ca_get 1 w3 HC3.out (wf_small _ (by omega) (by omega))).mono ?_
  rintro e w4 ⟨rfl, hca, hch⟩
  rw [aw3] at hca
  rw [aw3']
  have HC4 := Lib.hid hca
  have HF4 := HF3
  have HB4 := Lib.hid (HB3.out.trans (hch.below HB3.out.size HF3.out))
  clear hca hch
  go_wp2_with fail
  refine (ca_put 3 bC false w4 HC4.out (wf_small _ (by omega) (by omega)) (by omega) (by omega)).mono ?_
  rintro e w5 ⟨r5, F5, rfl, hca, hs, -, -, hf, hch⟩
  rw [aw4] at hca hs
  obtain ⟨A5, c5, rfl⟩ := Sl.len' hs
  have HC5 := Lib.hid hca
  have HS5 := Lib.hid hs
  have HF5 := Lib.hid (show ∀ k, F5 k → w.heap.size ≤ k from fun k hk => (hf k hk).elim (HF4.out k) (fun h => Nat.le_trans HB4.out.size h))
  have HB5 := Lib.hid (HB4.out.trans (hch.below HB4.out.size HF4.out))
  clear hca hs hf hch
  go_wp2_with fail
  refine (ca_put 4 bD false w5 HC5.out (wf_small _ (by omega) (by omega)) (by omega) (by omega)).mono ?_
  rintro e w6 ⟨r6, F6, rfl, hca, hs, -, -, hf, hch⟩
  rw [aw5] at hca hs
  obtain ⟨A6, c6, rfl⟩ := Sl.len' hs
  have HC6 := Lib.hid hca
  have HS6 := Lib.hid hs
  have HF6 := Lib.hid (show ∀ k, F6 k → w.heap.size ≤ k from fun k hk => (hf k hk).elim (HF5.out k) (fun h => Nat.le_trans HB5.out.size h))
  have HB6 := Lib.hid (HB5.out.trans (hch.below HB5.out.size HF5.out))
  clear hca hs hf hch
  rcases HS6.out.cases with ⟨_, _, _, h0⟩ | ⟨b, off, c, he, -, hbl, hsl⟩
  · cases h0
  injection he with he1 he2 he3
  subst he1 he3
  obtain ⟨-, hcl⟩ := hsl.cells (k := 0) (by simp)
  have e0 : w6.cell? ⟨b, off, none⟩ = some (.int .i64 1) := by simpa [Pg.cells] using hcl 0 _ rfl
  have e1 : w6.cell? ⟨b, off + 1, none⟩ = some (.string ⟨#[97]⟩) := by simpa [Pg.cells, bA] using hcl 1 _ rfl
  clear hcl hsl
  go_wp2_with fail
  refine (ca_len w6 HC6.out).mono ?_
  rintro e w7 ⟨rfl, rfl⟩
  go_wp2_with fail
  refine (ca_dirty w6 HC6.out (by omega)).mono ?_
  rintro e w7 ⟨r7, rfl, hs, -, hb⟩
  rw [show dirtyL _ = [] from aw6] at hs
  obtain ⟨A7, c7, rfl⟩ := Sl.len' hs
  have HB7 := Lib.hid (HB6.out.trans (hb.mono HB6.out.size))
  clear hs hb
  go_wp2_with fail
  go_ret
  exact ⟨rfl, HB7.out⟩
end Go.Proofs.Ytjjiclbngoldaaa
