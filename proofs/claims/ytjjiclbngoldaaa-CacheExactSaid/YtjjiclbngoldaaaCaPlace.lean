/- The walk of cahierlaw12.place; rows of pages of the call's own. -/
import Derived.Test.YtjjiclbngoldaaaCaLosesLaw
import Derived.Test.YtjjiclbngoldaaaCaLast
namespace Go.Proofs.Ytjjiclbngoldaaa
open Go.RowKit

theorem Own.ch {α : Type} {f : α → List Value} {size : Nat} {e : TypeId} {base : Nat} {w w' : World} {v : Value} {xs : List α} {S : Nat → Prop} (h : Own f size e base w v xs) (hc : Ch S w w') (hn : ∀ k, v.ownBlock = some k → ¬ S k) : Own f size e base w' v xs := by
  refine ⟨h.1, ?_⟩
  rcases h.2 with h2 | ⟨g, cap, cur, hv, hb, hg, rest⟩
  · exact .inl h2
  · refine .inr ⟨g, cap, cur, hv, hb, hc.keep hg (hn g (by rw [hv]; rfl)), rest⟩
def DisF (v : Value) (F : Nat → Prop) : Prop := ∀ k, v.ownBlock = some k → ¬ F k
theorem Ca.exact {w : World} {F : Nat → Prop} {v : Value} {size : Int} {L : List On} (h : Ca w F v size L) : ∃ F0, Ca w F0 v size L ∧ (∀ k, F0 k → F k) ∧ (∀ k, F0 k → k < w.heap.size) := by
  obtain ⟨gc, gr, gm, gs, E, h1, h2, h3, h4, h5⟩ := h
  refine ⟨fun k => k ∈ gc :: gm :: gr :: gs, ⟨gc, gr, gm, gs, E, h1, h2, h3, h4, fun k hk => hk⟩, h5, fun k hk => ?_⟩
  have b1 := lt_of_heap h2.bc
  have b2 := h2.map.lt
  rcases List.mem_cons.1 hk with rfl | hk
  · exact b1
  rcases List.mem_cons.1 hk with rfl | hk
  · exact b2
  exact h2.mem.lt hk

set_option maxRecDepth 100000 in
set_option maxHeartbeats 1000000 in
theorem place_any (lv : Value) (xs : List Pg) (n : Int) (w : World) (h : Sl Pg.cells 2 w lv xs) (hl : xs.length ≤ 1000) :
    Calls Try.prog 9 #[lv, .int .i64 n] w fun e w' => e = .returned (.int .i64 (firstOr (fun x : Pg => x.n == n) xs)) ∧ w = w' := by
  obtain ⟨A, c, rfl⟩ := Sl.len' h
  have H := Lib.hid h
  clear h
  go_enter Try.func9, Try.ntmps9
  go_wp2_with fail
  go_loop [5] (fun i => ∃ k : Nat, k ≤ xs.length ∧ i = .int .i64 k ∧ ∀ j (h : j < xs.length), j < k → (xs[j].n == n) = false) (fun i => xs.length - (intOf i).toNat)
  case atStart => exact ⟨0, Nat.zero_le _, rfl, fun _ _ h => absurd h (Nat.not_lt_zero _)⟩
  case round =>
    obtain ⟨k, hk, rfl, hno⟩ := hrel
    have HN := Lib.hid hno
    clear hno
    by_cases hlt : k < xs.length
    · rcases H.out.cases with ⟨A, c, he, hnil⟩ | ⟨b, off, c, he, -, hbl, hsl⟩
      · rw [hnil] at hlt; simp at hlt
      injection he with he1 he2 he3
      subst he1 he3
      obtain ⟨-, hcells⟩ := hsl.cells hlt
      have e0 : w.cell? ⟨b, off + k * 2, none⟩ = some (.int .i64 xs[k].n) := by simpa using hcells 0 _ rfl
      have hk0 : (0 : Int) ≤ (k : Int) := by omega
      have hk1 : (k : Int) < (xs.length : Int) := by omega
      have HI := Lib.hid (show (xs[k].n == n) = true → firstOr (fun x : Pg => x.n == n) xs = k from fun h => firstOr_at hlt h HN.out)
      have HU := Lib.hid (show (xs[k].n == n) = false → ∀ j (h : j < xs.length), j < k + 1 → (xs[j].n == n) = false from fun h => not_up (p := fun x : Pg => x.n == n) HN.out hlt h)
      clear hcells hsl
      generalize xs[k].n = xk at *
      cases hx : (xk == n)
      · have HX := Lib.hid (HU.out hx)
        go_wp2_with fail
        go_round
        case rel => exact ⟨k + 1, by omega, by go_num, HX.out⟩
        case measure => simp [intOf]; omega
      · have HX := Lib.hid (HI.out hx)
        go_wp2_with fail
        go_ret
        exact ⟨ret_i HX.out.symm, rfl⟩
    · have HX := Lib.hid (firstOr_none (p := fun x : Pg => x.n == n) hlt HN.out)
      go_wp2_with fail
      go_ret
      exact ⟨ret_i HX.out.symm, rfl⟩
end Go.Proofs.Ytjjiclbngoldaaa
