/- maps.Values over a cache's map, for every loop body: each entry once, in some order. -/
import Derived.Test.YtjjiclbngoldaaaCaNew
import Derived.Lib.SlKeysI
import Derived.Shelf.AbstractIn
import Derived.RangeFuncMany
import Derived.RangeFuncStops
import Derived.RangeFuncLeaves
import Derived.Sort.MapsRangeIn
import Derived.OwnWalkIn
import Derived.TacticsInMore
import Derived.RegionIn
import Derived.LoopNIn
import Derived.LoopIn
namespace Go.Proofs.Ytjjiclbngoldaaa
open Go.RowKit Go.Maps Go.Sort Go.Shelf

/-- a pair of the map -/
abbrev Pr (K : List (Int × Nat)) := { p : Int × Nat // p ∈ K }
def encPr {K : List (Int × Nat)} (p : Pr K) : Value := .pointer (some ⟨p.1.2, 0, none⟩)

theorem MapOf.hit {D : DataW Unit} {K : List (Int × Nat)} (h : MapOf D K) {n : Int} {y : DataW Unit} (hat : ∀ z, D.atKey (keyL n) z = y) : ∃ b, (n, b) ∈ K ∧ y = .lit (.int .i64 b) := by
  by_cases hn : n ∈ K.map (·.1)
  · obtain ⟨p, hp, rfl⟩ := List.mem_map.1 hn
    exact ⟨p.2, hp, (hat .nil).symm.trans (h.yes p hp .nil)⟩
  · have := has_true_of_atKey hat
    rw [h.no n hn] at this
    cases this
theorem perm_all {K : List (Int × Nat)} {D : DataW Unit} (h : MapOf D K) {ps : List (Pr K)} (hn : (ps.map (·.1.1)).Nodup) (hm : ∀ x, x ∈ ps.map (·.1.1) ↔ has D (keyL x) = true) : (ps.map (·.1)).Perm K := by
  have hk : K.Nodup := List.Pairwise.of_map _ (fun a b hh e => hh (congrArg _ e)) h.nd
  have hp : (ps.map (·.1)).Nodup := by
    have : (ps.map (·.1.1)) = (ps.map (·.1)).map (·.1) := by rw [List.map_map]; rfl
    rw [this] at hn
    exact List.Pairwise.of_map _ (fun a b hh e => hh (congrArg _ e)) hn
  refine (List.perm_ext_iff_of_nodup hp hk).2 fun p => ⟨fun hh => ?_, fun hh => ?_⟩
  · obtain ⟨q, _, rfl⟩ := List.mem_map.1 hh
    exact q.2
  · have h1 : has D (keyL p.1) = true := has_true_of_atKey (h.yes p hh)
    obtain ⟨q, hq, e⟩ := List.mem_map.1 ((hm p.1).2 h1)
    have h2 := h.yes q.1 q.2 .nil
    have h3 := h.yes p hh .nil
    have e' : q.1.1 = p.1 := e
    rw [← e'] at h3
    have e2 := h3.symm.trans h2
    simp only [DataW.lit.injEq, Lit.int.injEq, true_and] at e2
    have e3 : p.2 = q.1.2 := Int.natCast_inj.1 e2
    have : p = q.1 := Prod.ext e.symm e3
    exact List.mem_map.2 ⟨q, hq, this.symm⟩

set_option maxRecDepth 100000 in
set_option maxHeartbeats 1000000 in
theorem values1_in (F : Fence) (n : Nat) (h8 : F.fn 31) (hro : F.round = none) (hn : 1 ≤ n) (l Bm b : Nat) (K : List (Int × Nat)) (J Jx : List (Pr K) → World → Prop)
    (hY : ∀ pre x W, J pre W → pre.length < K.length → YieldAt F (n - 1) Try.prog l #[encPr x] W fun e W' =>
      (e = .returned (.bool true) ∧ J (pre ++ [x]) W' ∧ KeepsWalks W W') ∨ (e = .returned (.bool false) ∧ Jx (pre ++ [x]) W'))
    (W : World) (hJ : AbidesFrom W.heap.size J) (hm : W.cell? ⟨Bm, 0, none⟩ = some (.map (some b))) (hmap : MapIs W b K) (h0 : J [] W) :
    CallsIn F n Try.prog 31 #[.func (.yield l) #[] #[], .pointer (some ⟨Bm, 0, none⟩)] W fun e W' => (∃ v, e = .returned v) ∧
      ((∃ ps : List (Pr K), (ps.map (·.1)).Perm K ∧ J ps W') ∨ (∃ pre, Jx pre W')) := by
  obtain ⟨D0, hown, hmo⟩ := hmap
  have HMO := Lib.hid hmo
  have hsz : Maps.size D0 = K.length := hmo.size
  have HSZ := Lib.hid hsz
  clear hmo hsz
  refine callsIn_of_wp Try.func31 rfl h8 ?_ hro
  simp only [Try.ntmps31, List.size_toArray, List.length_cons, List.length_nil, Nat.reduceAdd, Nat.reduceSub, Array.replicate_succ, Array.replicate_zero, List.push_toArray, List.append_toArray, List.nil_append, List.cons_append]
  gi_wp2_with (first
    | (gi_at_range; refine wpListIn_range_own _ rfl _ 51 rfl 3 50 int_law Try.underlying51 _ b K.length _ rfl hown ?_; intro w0 hrg0 hg0 hs0)
    | gi_in)
  go_frame
  gi_loopw [4] (fun _ wr => ∃ (left : Lit → Bool) (cnt : Nat) (ps : List (Pr K)), wr.ranges Try.prog 3 ptrR b W.heap.size K.length D0 left cnt ∧ ps.length + cnt ≤ K.length ∧ CollectedI D0 left (ps.map (·.1.1)) ∧ J ps wr)
    (fun _ wr => wr.rangeLeft b W.heap.size)
  case atStart =>
    exact ⟨_, _, [], hrg0, by simp [HSZ.out], CollectedI.start D0, hJ [] W w0 none h0 hg0 (fun r e => by cases e)⟩
  case round =>
    obtain ⟨left, cnt, ps, hrg, hcs, hC, hJs⟩ := hrel
    gi_wp2_with (first
      | (gi_at_next; refine wpListIn_next_ranges _ rfl _ rfl 3 int_law ptrR (Value.int .i64) id (fun key kl hk => by obtain ⟨x, hx, _⟩ := Maps.keyOf_int_inv Try.underlying3 hk; exact ⟨x, hx⟩) (fun v _ _ => ⟨v, rfl⟩) b W.heap.size K.length _ _ _ rfl hrg ?_ ?_)
      | gi_in)
    · intro hc0 hl0
      gi_wp2
      go_end0
      exact ⟨⟨_, rfl⟩, .inl ⟨ps, perm_all HMO.out hC.1 (fun x => by rw [hC.2 x, hl0]; simp), hJs⟩⟩
    · intro x c kl yd yp w2 cnt2 hkey hlk hv hat hrg2 hlt hg2 hs2 hen
      obtain ⟨x', ex, rfl, _⟩ := Maps.keyOf_int_inv Try.underlying3 hkey
      obtain rfl : x = x' := by simpa using ex
      obtain ⟨bb, hmem, rfl⟩ := HMO.out.hit hat
      obtain rfl : c = .pointer (some ⟨bb, 0, none⟩) := ptrR_some hv
      have hJ2 : J ps w2 := hJ ps wr w2 (some W.heap.size) hJs hg2 (fun r e => by cases e; exact ⟨Nat.le_refl _, hrg.iter_walk⟩)
      obtain ⟨fn, tmps, assign, body, hy, hR⟩ := hY ps ⟨(x, bb), hmem⟩ w2 hJ2 (by omega)
      dsimp only [encPr] at hy
      clear hs2
      gi_wp2
      refine hR.mono ?_
      have hC2 : CollectedI D0 (fun z => left z && !z.sameKey (.int .i64 x)) ((ps ++ [(⟨(x, bb), hmem⟩ : Pr K)]).map (·.1.1)) := by simpa using hC.step hlk hat
      rintro e W3 (⟨rfl, hJ3, hk3⟩ | ⟨rfl, hJx3⟩)
      · gi_wp2
        have hrg3 := hrg2.of_walks hk3
        go_roundw
        case rel => exact ⟨_, cnt2, ps ++ [⟨(x, bb), hmem⟩], hrg3, by simp; omega, hC2, hJ3⟩
        case measure => rw [hrg3.left_eq, hrg.left_eq]; exact hlt
      · gi_wp2
        refine bodyPost_ret (results_none rfl _ _ _) rfl ?_
        exact ⟨⟨_, rfl⟩, .inr ⟨ps ++ [⟨(x, bb), hmem⟩], hJx3⟩⟩

set_option maxHeartbeats 1000000 in
theorem values_in (F : Fence) (n : Nat) (hf : F.fn 26) (hro : F.round = none) (mb : Option Nat) (w : World) :
    CallsIn F n Try.prog 26 #[.map mb] w fun e w' => e = .returned (.func (.func 31) #[] #[.pointer (some ⟨w.heap.size, 0, none⟩)]) ∧ w' = w.alloc (.cells #[.map mb] 51) := by
  refine callsIn_of_wp Try.func26 rfl hf ?_ hro
  simp only [Try.ntmps26, List.size_toArray, List.length_cons, List.length_nil, Nat.reduceAdd, Nat.reduceSub, Array.replicate_succ, Array.replicate_zero, List.push_toArray, List.append_toArray, List.nil_append, List.cons_append]
  gi_wp2
  go_ret
  exact ⟨rfl, rfl⟩

theorem values_stops (F : Fence) (n : Nat) (h7 : F.fn 31) (hro : F.round = none) (hn : 1 ≤ n) (Bm b : Nat) (K : List (Int × Nat)) (w : World) (hBm : Bm < w.heap.size)
    (hm : w.cell? ⟨Bm, 0, none⟩ = some (.map (some b))) (hmap : MapIs w b K) :
    SeqStops F n Try.prog 31 #[.pointer (some ⟨Bm, 0, none⟩)] (encPr (K := K)) (fun ps => (ps.map (·.1)).Perm K) (fun _ => True) K.length w := fun l J Jx W hW hJ _ hY h0 =>
  (values1_in F n h7 hro hn l Bm b K J Jx hY W hJ ((hW.cell (p := ⟨Bm, 0, none⟩) hBm).trans hm) (hmap.block (hW.block b hmap.lt)) h0).mono fun _ _ ⟨h1, h2⟩ => ⟨h1, h2.elim .inl (fun ⟨p, hp⟩ => .inr ⟨p, trivial, hp⟩)⟩
end Go.Proofs.Ytjjiclbngoldaaa
