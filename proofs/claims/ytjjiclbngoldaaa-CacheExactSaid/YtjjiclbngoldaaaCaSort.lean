/- slices.SortFunc over a cache's pages. -/
import Derived.Test.YtjjiclbngoldaaaCaPut
import Derived.Test.YtjjiclbngoldaaaShelf
namespace Go.Proofs.Ytjjiclbngoldaaa
open Go.RowKit Go.Maps Go.Sort Go.Shelf Go.Lib

instance : Inhabited Pg := ⟨⟨0, ⟨#[]⟩⟩⟩
theorem isAggP (w : World) : (isAgg 29).run Try.prog w = .ok true w := by kernel_rfl
theorem sizeOfP (w : World) : (sizeOf 29).run Try.prog w = .ok 2 w := by kernel_rfl
def cfP (x y : Pg) : Int := Lib.compareInt x.n y.n
theorem ltP (x y : Pg) : ltOf cfP x y = decide (x.n < y.n) := by
  unfold ltOf cfP Lib.compareInt
  by_cases h1 : x.n < y.n
  · simp [h1]
  · by_cases h2 : y.n < x.n <;> simp [h1, h2]
theorem swoP : SWO (ltOf cfP) where
  irrefl x := by rw [ltP]; simp
  trans x y z h1 h2 := by rw [ltP] at *; simp at *; omega
  ntrans x y z h1 h2 := by rw [ltP] at *; simp at *; omega

set_option maxHeartbeats 1000000 in
theorem closureP (x y : Pg) (W : World) : Calls Try.prog 28 #[.agg #[.int .i64 x.n, .string x.s], .agg #[.int .i64 y.n, .string y.s]] W fun e w' => e = .returned (.int .i64 (cfP x y)) ∧ ∃ q os', w' = grow (W.drewN q) os' := by
  have hcon := fun W' => Try.cmp_Compare_int x.n y.n W'
  unfold cfP
  generalize Lib.compareInt x.n y.n = r at hcon ⊢
  go_enter Try.func28, Try.ntmps28
  go_wp2_with (go_at_call 29; refine (hcon _).mono ?_; rintro e w' ⟨rfl, rfl⟩)
  go_ret
  exact ⟨rfl, 0, _, by rw [alloc_eq_grow, alloc_eq_grow, grow_grow]; rfl⟩
theorem cmpLaysP (blk off size : Nat) (w : World) : CmpLays Try.prog 28 #[] Pg.cells 2 cfP blk off size w :=
  fun _ _ _ _ x y => closureP x y _

def leP (a b : Pg) : Bool := decide (a.n ≤ b.n)
theorem pg_sorted {xs ys : List Pg} (hp : ys.Perm xs) (hnd : (xs.map (·.n)).Nodup) (hs : ys.Pairwise fun a b => a.n ≤ b.n) : ys = xs.mergeSort leP := by
  have tr : ∀ a b c : Pg, leP a b = true → leP b c = true → leP a c = true := fun a b c h1 h2 => by simp only [leP, decide_eq_true_eq] at *; omega
  have to : ∀ a b : Pg, (leP a b || leP b a) = true := fun a b => by simp only [leP, Bool.or_eq_true, decide_eq_true_eq]; omega
  have inj : ∀ l : List Pg, (l.map (·.n)).Nodup → ∀ a ∈ l, ∀ b ∈ l, a.n = b.n → a = b := by
    intro l
    induction l with
    | nil => intro _ a ha; cases ha
    | cons x l ih =>
      intro h a ha b hb e
      rw [List.map_cons, List.nodup_cons] at h
      rcases List.mem_cons.1 ha with ea | ha1 <;> rcases List.mem_cons.1 hb with eb | hb1
      · rw [ea, eb]
      · subst ea; exact (h.1 (List.mem_map.2 ⟨b, hb1, e.symm⟩)).elim
      · subst eb; exact (h.1 (List.mem_map.2 ⟨a, ha1, e⟩)).elim
      · exact ih h.2 a ha1 b hb1 e
  refine List.Perm.eq_of_pairwise (le := fun a b => leP a b = true) (fun a b ha hb h1 h2 => ?_) (hs.imp fun h => by simpa [leP] using h) (List.pairwise_mergeSort tr to xs) (hp.trans (List.mergeSort_perm xs leP).symm)
  simp only [leP, decide_eq_true_eq] at h1 h2
  exact inj xs hnd a (hp.mem_iff.1 ha) b ((List.mergeSort_perm xs leP).mem_iff.1 hb) (by omega)

theorem ch_sortWorld (w : World) (blk n : Nat) (d : Array Pg) (os : Array Obj) : Ch (fun k => k = blk) w (sortWorldK Pg.cells 2 w blk 0 n d os) := by
  refine ⟨rfl, rfl, rfl, by simp [sortWorldK, putRowK, Sort.ahead], fun k hk hn => ?_⟩
  unfold sortWorldK
  rw [heap_grow_old _ _ (by simp [putRowK, Sort.ahead]; exact hk)]
  simp only [putRowK, putRow, mapBlock, Sort.ahead, Array.getElem?_modify]
  rw [if_neg (fun e => hn e.symm)]

set_option maxHeartbeats 1000000 in
theorem sort_pg (base blk cap : Nat) (xs : List Pg) (w : World) (h : Own Pg.cells 2 29 base w (.slice (some ⟨blk, 0, none⟩) xs.length cap) xs) (hnd : (xs.map (·.n)).Nodup) (hl : xs.length ≤ 1000) :
    Calls Try.prog 27 #[.slice (some ⟨blk, 0, none⟩) xs.length cap, .func (.func 28) #[] #[]] w fun e w' =>
      e = .returned (.tuple #[]) ∧ Sl Pg.cells 2 w' (.slice (some ⟨blk, 0, none⟩) xs.length cap) (xs.mergeSort leP) ∧ Ch (fun k => k = blk) w w' := by
  have eg : ∀ args w, (callFunc 28 args).run Try.prog w = .ok (.enter 28 args) w := enters_of Try.func28 (by kernel_rfl) rfl
  have hblk : blk < w.heap.size := (h.lt blk rfl).2
  have hH : HoldsK Pg.cells 2 w blk 0 xs.toArray := by
    rcases h.2 with ⟨hv, _⟩ | ⟨g, cap', cur, hv, hb, hg, hn, hm, hc, ht⟩
    · cases hv
    · cases hv
      intro j hj
      rw [size_flatK, List.size_toArray] at hj
      rw [Nat.zero_add]
      refine ⟨?_, by simp [World.frozen?, hg]⟩
      have hq : j / 2 < xs.length := by omega
      have h1 := flat_at Pg.cells 2 Pg.len xs (j / 2) xs[j / 2] (List.getElem?_eq_getElem hq) (j % 2) (((xs[j / 2]).cells)[j % 2]'(by rw [Pg.len]; omega)) (List.getElem?_eq_getElem _)
      rw [show j / 2 * 2 + j % 2 = j from by omega, ← ht, List.getElem?_take] at h1
      rw [if_pos (by omega)] at h1
      · rw [get_flatK _ _ _ _ (by rw [List.size_toArray]; exact hj)]
        have e1 : (xs.toArray)[j / 2]! = xs[j / 2] := by simp [hq]
        have hjl : j % 2 < (xs[j / 2]).cells.length := by rw [Pg.len]; omega
        have e2 : ((xs[j / 2]).cells)[j % 2]! = ((xs[j / 2]).cells)[j % 2] := getElem!_pos (xs[j / 2].cells) (j % 2) hjl
        rw [e1, e2]
        simp only [World.cell?, hg, Option.isSome_none, Bool.false_eq_true, if_false]
        simpa using h1
  have hcon := AnyQ.slices_SortFunc Try.sortPg 2 isAggP sizeOfP Pg.cells Pg.len (fun x v hv => by simp [Pg.cells] at hv; rcases hv with rfl | rfl <;> rfl) cfP swoP 28 #[] blk 0 cap xs.toArray w eg (cmpLaysP blk 0 _ w) hH hblk (by rw [List.size_toArray]; omega)
  rw [List.size_toArray] at hcon
  change Calls Try.prog 27 _ _ _ at hcon
  refine hcon.mono fun e w' ⟨he, d', n, os, hp, hs, hw⟩ => ⟨he, ?_, hw ▸ ch_sortWorld w blk n d' os⟩
  obtain ⟨hsz, _, hperm⟩ := hp
  replace hsz : d'.size = xs.length := by simpa using hsz
  have hperm' : d'.toList.Perm xs := by
    have e1 : d'.extract 0 xs.length = d' := by rw [← hsz]; simp
    rw [e1] at hperm
    simpa using hperm
  have hpw : d'.toList.Pairwise fun a b => a.n ≤ b.n := by
    refine List.pairwise_iff_getElem.2 fun i j hi hj hij => ?_
    rw [Array.length_toList] at hi hj
    have := hs i j (Nat.zero_le _) hij (by omega)
    rw [ltP, decide_eq_false_iff_not, getElem!_pos d' i (by omega), getElem!_pos d' j (by omega)] at this
    simp only [Array.getElem_toList]
    omega
  have hd := pg_sorted hperm' hnd hpw
  rw [← hd]
  have hHH : HoldsK Pg.cells 2 w' blk 0 d' := by
    rw [hw]
    unfold sortWorldK
    exact holdsK_grow Pg.cells 2 _ _ _ _ _ (by simp [putRowK, Sort.ahead]; exact hblk) (holdsK_putRowK Pg.cells 2 _ _ _ xs.toArray d' (holdsK_ahead Pg.cells 2 _ _ _ _ _ hH) (by rw [hsz, List.size_toArray]))
  refine ⟨some ⟨blk, 0, none⟩, cap, by simp [hsz], fun _ => ⟨blk, 0, rfl, ?_, fun i x hx j u hu => ?_⟩⟩
  · rw [hw]
    exact Nat.lt_of_lt_of_le hblk (ch_sortWorld w blk n d' os).size
  · have hi : i < d'.size := by
      rcases Nat.lt_or_ge i d'.size with h | h
      · exact h
      · rw [List.getElem?_eq_none (by rw [Array.length_toList]; exact h)] at hx; cases hx
    have hj : j < 2 := by
      rcases Nat.lt_or_ge j 2 with h | h
      · exact h
      · rw [List.getElem?_eq_none (by rw [Pg.len]; exact h)] at hu; cases hu
    rw [(hHH.cell hi hj).1]
    have e1 : d'[i]! = x := by
      rw [getElem!_pos d' i hi]
      rw [List.getElem?_eq_getElem (by rw [Array.length_toList]; exact hi)] at hx
      simpa using hx
    rw [e1]
    have hjl : j < x.cells.length := by rw [Pg.len]; exact hj
    rw [List.getElem?_eq_getElem hjl] at hu
    rw [getElem!_pos x.cells j hjl]
    exact hu

set_option maxHeartbeats 1000000 in
theorem ins_none (p : Option Addr) (cap : Nat) (fv : Value) (w : World) : Calls Try.prog 35 #[.slice p 0 cap, .int .i64 0, .int .i64 0, fv] w fun e w' => e = .returned (.tuple #[]) ∧ w = w' := by
  go_enter Try.func35, Try.ntmps35
  go_wp2_with fail
  go_rounds 1
  go_end0
  exact ⟨rfl, rfl⟩
set_option maxRecDepth 100000 in
set_option maxHeartbeats 1000000 in
theorem pdq_none (p : Option Addr) (cap : Nat) (lim : Int) (fv : Value) (w : World) : Calls Try.prog 32 #[.slice p 0 cap, .int .i64 0, .int .i64 0, .int .i64 lim, fv] w fun e w' => e = .returned (.tuple #[]) ∧ w = w' := by
  go_enter Try.func32, Try.ntmps32
  go_wp2_with fail
  refine wp_loop_rounds 1 ?_
  rw [rounds_succ]
  go_wp2_with fail
  refine (ins_none _ _ _ _).mono ?_
  rintro e w' ⟨rfl, rfl⟩
  go_wp2_with fail
  refine bodyPost_ret (results_none rfl _ _ _) rfl ?_
  exact ⟨rfl, rfl⟩
set_option maxRecDepth 100000 in
set_option maxHeartbeats 1000000 in
theorem sort_none (p : Option Addr) (cap : Nat) (fv : Value) (w : World) : Calls Try.prog 27 #[.slice p 0 cap, fv] w fun e w' => e = .returned (.tuple #[]) ∧ w = w' := by
  have hl : ∀ W, Calls Try.prog 33 #[.int .u64 0] W fun e w' => e = .returned (.int .i64 (Lib.bitLen 0 : Nat)) ∧ w' = W := fun W => Try.bits_Len 0 W (by omega) (by omega)
  go_enter Try.func27, Try.ntmps27
  go_wp2_with fail
  refine (hl _).mono ?_
  rintro e w' ⟨rfl, rfl⟩
  go_wp2_with fail
  refine (pdq_none _ _ _ _ _).mono ?_
  rintro e w' ⟨rfl, rfl⟩
  go_wp2_with fail
  go_end0
  exact ⟨rfl, rfl⟩
end Go.Proofs.Ytjjiclbngoldaaa
