/- TreeFails: an error of the pages is the answer; whatever stands on the pages, calls end. The row lists unicode/utf8.acceptRanges and .first; the card ties them to the program's text (a pruned copy). No condition beyond the row's own. -/
import Derived.Test.YtknioodagnjchaaGreatDoorATFails
import Derived.Test.YtknioodagnjchaaGreatDoorAAr
import Derived.Test.YtknioodagnjchaaGreatDoorCards
import Derived.Test.YtknioodagnjchaaGreatDoorTie
import Derived.LaidMore
import Derived.Lay
import Derived.Shelf.Vars
import Derived.SevenTiedAt
import Derived.Stop.Joined
namespace Go.Proofs.YtknioodagnjchaaGreatDoor
open Go.ChangeShapes Go.WideShapes Go.ChangeAt Go.RowKit Go.Joins

def laidTreeFails : List (String × DataW Unit) := Rows.treeFailsRow.laid
set_option maxRecDepth 100000 in
theorem treeFails_lifted (os : Os) (started : os.Started) (H : Type) (enc : TypeId × Value → H) :
    ReturnsInHanded {} Tryz.checked os 7 .any (fun w args => (Rows.treeFailsSpec.pre enc Tryz.prog Tryz.f7 Rows.treeFailsRow.domain false w args ∧ laidMetH Tryz.prog laidTreeFails w) ∧ sizedMet enc Tryz.prog Tryz.f7 (OpenSpec.ofChange Rows.treeFailsSpec) false w args)
      (Rows.treeFailsSpec.post enc Tryz.prog Tryz.f7 false true false false) := by
  refine returnsInHanded_of_calls own0 started (by kernel_rfl)
    (ChangeSpec.witness_shaped (enc := enc) (C := Tryz.checked) (os := os) (X := fun w _ => laidMetH Tryz.prog laidTreeFails w) false (World.laidAll Tryz.prog os laidTreeFails) #[.slice none 0 0, .int .i64 0, .slice none 0 0] 8 (World.laidAll_os _ _ _)
      (World.shaped_of_ZipB (by kernel_rfl) (by kernel_rfl)) (by kernel_rfl) (by kernel_rfl) (by kernel_rfl)
      (by rw [MakeChecks.laidMetH_plain _ _ _ (by kernel_rfl)]; exact laidMet_laidAll _ (by kernel_rfl) (by kernel_rfl))) ?_
  intro w tape i _ _ _ hok hpre hholds
  obtain ⟨_, _, _, fn', hfn', _, _, _, _, hval1⟩ := hok
  have e : fn' = Tryz.f7 := Option.some.inj (hfn'.symm.trans Tryz.func7)
  subst e
  obtain ⟨⟨⟨ds, gs, before, hw1, hc⟩, hx⟩, hz⟩ := hpre
  have hW := DataW.Whole.of_heap (w' := w.forCall tape i) (by rfl) hw1
  suffices Calls Tryz.prog 7 i.args (w.forCall tape i) fun e W' => ∃ v, e = .returned v ∧ Rows.treeFailsSpec.post enc Tryz.prog Tryz.f7 false true false false (w.forCall tape i) i.args v W' from
    this.mono fun e W' ⟨v, he, hp⟩ => by subst he; exact ChangeSpec.post_blind hp
  clear hw1 hz hx hc hholds
  generalize w.forCall tape i = W at *
  generalize i.args = args at *
  have hval : ∀ (j : Nat) t v, Tryz.f7.params[j]? = some t → args[j]? = some v → Value.okWide Tryz.prog W .any w.heap.size t v := hval1
  have hW' := hW
  obtain ⟨p, q, hA0, hV, rfl, hfz, hnd⟩ := hW
  have hA : DataW.TrodAll enc Tryz.prog W 0 (fun _ => true) true Tryz.f7.params.toList args.toList ds p := hA0
  rw [Tryz.params7] at hA hval
  obtain ⟨v0, v1, v2, d0, d1, d2, p0, p1, p2, rfl, rfl, rfl, h0, h1, h2⟩ := trodAll_three hA
  have hlt : ∀ x ∈ p0 ++ p1 ++ p2, x.block < W.heap.size := fun x hx => hW'.lt x (List.mem_append_left _ hx)
  obtain ⟨order, horder', -⟩ := read_ints (okWide_slice Tryz.underlying37 (hval 0 37 v0 rfl rfl)) h0 (fun x hx => hlt x (by simp [hx]))
  obtain ⟨at_, rfl, rfl, rfl, -⟩ := open_int Tryz.underlying3 (hval 1 3 v1 rfl rfl) h1
  obtain ⟨pages, hpages', hlpages⟩ := read_strs (okWide_slice Tryz.underlying22 (hval 2 22 v2 rfl rfl)) h2 (fun x hx => hlt x (by simp [hx]))
  refine (fails_any order v0 at_ pages v2 W horder' hpages').mono fun e W' ⟨he, hb⟩ => ?_
  exact ⟨_, he, law_post rfl rfl (of_decide_eq_true (by kernel_rfl)) rfl hW' hb⟩
set_option maxRecDepth 100000 in
theorem treeFails_row : Rows.TreeFailsSaid :=
  OpenClaim.holds_of_wide 7 Tryz.f7 rfl rfl rfl rfl rfl rfl rfl ⟨rfl, rfl, rfl, rfl, rfl⟩ rfl rfl rfl rfl rfl (by kernel_rfl) Tryz.func7 (by kernel_rfl)
    (of_decide_eq_true (by kernel_rfl)) (by unfold Func.isWrapper; first | (rw [if_pos (by decide +kernel)]; kernel_rfl) | (rw [if_neg (by decide +kernel)]; exact ⟨rfl, rfl⟩))
    (fun os started H enc _ => treeFails_lifted os started H enc)

set_option maxRecDepth 100000 in
theorem treeFails_holds : Rows.TreeFailsCardSaid :=
  Claim7.holds_tied_plain_at .later [] [.data, .pinned] true (true, "cbae5b208e03e217354d83d2018c8138b44cc3fe91af8418b851dd1a22487af9") false treeFails_row (fun _ h => by cases h) (by kernel_rfl) (fun _ h => by cases h) treeFails_row_tie rfl ⟨rfl, rfl⟩ (by kernel_rfl) rfl
    (fun f fn hf hfn => by
      obtain rfl : f = 7 := Option.some.inj ((show Tryz.prog.funcNamed "cahier/cahierlaw16.TreeFails" = some 7 by kernel_rfl).symm.trans hf) |>.symm
      obtain rfl : fn = Tryz.f7 := (Option.some.inj (Tryz.func7.symm.trans hfn)).symm
      exact ⟨by kernel_rfl, fun j t ht => by
        rw [Tryz.params7] at ht
        have hm : t ∈ [37, 3, 22] := by simpa using Array.mem_of_getElem? ht
        have hall : ([37, 3, 22].all fun u => !Tryz.prog.wantsStandIn u) = true := by kernel_rfl
        exact (show Tryz.prog.wantsStandIn t = false by simpa using List.all_eq_true.1 hall t hm)⟩)
    (by kernel_rfl)
end Go.Proofs.YtknioodagnjchaaGreatDoor
