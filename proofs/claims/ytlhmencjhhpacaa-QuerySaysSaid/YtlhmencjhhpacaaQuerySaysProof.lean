/- QuerySays: of every query it is told as the reference tells whether it can be asked, and, if so, how its rows are found. No condition beyond the row's own. -/
import Derived.Test.YtlhmencjhhpacaaSays
import Derived.Test.YtlhmencjhhpacaaRead2
namespace Go.Proofs.Ytlhmencjhhpacaa
open Go.ChangeShapes Go.WideShapes Go.ChangeAt Go.RowKit Go.Joins

set_option maxRecDepth 100000 in
theorem querySays_lifted (os : Os) (started : os.Started) (H : Type) (enc : TypeId × Value → H) :
    ReturnsInHanded {} Try.checked os 6 .any (Rows.querySaysSpec.pre6 enc Try.prog Try.f6 Rows.querySaysRow.domain false) (Rows.querySaysSpec.post enc Try.prog Try.f6 false true false false) := by
  refine returnsInHanded_of_change (C := Try.checked) own0 started (by kernel_rfl) Try.func6
    (ChangeSpec.witness6 (enc := enc) (C := Try.checked) false ⟨#[], #[.agg #[.int .i64 0, .slice none 0 0, .slice none 0 0, .int .i64 0, .bool false, .int .i64 0], .slice none 0 0], []⟩ 8 (by kernel_rfl) (by kernel_rfl) (by kernel_rfl) (by kernel_rfl)) ?_
  intro W base args ds gs before hval0 hW _ _
  have hval : ∀ (j : Nat) t v, Try.f6.params[j]? = some t → args[j]? = some v → Value.okWide Try.prog W .any base t v := hval0
  have hW' := hW
  obtain ⟨p, q, hA0, hV, rfl, hfz, hnd⟩ := hW
  have hA : DataW.TrodAll enc Try.prog W 0 (fun _ => true) true Try.f6.params.toList args.toList ds p := hA0
  rw [Try.params6] at hA hval
  obtain ⟨v0, v1, d0, d1, p0, p1, rfl, rfl, rfl, h0, h1⟩ := trodAll_two hA
  have hlt : ∀ x ∈ p0 ++ p1, x.block < W.heap.size := fun x hx => hW'.lt x (List.mem_append_left _ hx)
  obtain ⟨t, cv, lv, ord, down, lim, conds, cs, rfl, hcv, hlv, hcs⟩ := read_query (hval 0 50 v0 rfl rfl) h0 (fun x hx => hlt x (by simp [hx]))
  obtain ⟨list, hiv, -⟩ := read_ixs (okWide_slice Try.underlying51 (hval 1 51 v1 rfl rfl)) h1 (fun x hx => hlt x (by simp [hx]))
  refine (says_any t cv lv v1 conds cs ord down lim list W hcv hlv hiv hcs).mono fun e W' ⟨he, hb⟩ => ?_
  exact ⟨_, he, law_post rfl rfl (of_decide_eq_true (by kernel_rfl)) rfl hW' hb⟩

theorem querySays_holds : Rows.QuerySaysSaid :=
  OpenClaim.holds_of_wide 6 Try.f6 rfl rfl rfl rfl rfl rfl rfl ⟨rfl, rfl, rfl, rfl, rfl⟩ rfl rfl rfl rfl rfl (by kernel_rfl) Try.func6 (by kernel_rfl)
    (of_decide_eq_true (by kernel_rfl)) (by unfold Func.isWrapper; rw [if_neg (of_decide_eq_false (by kernel_rfl))]; exact ⟨rfl, rfl⟩)
    (fun os started H enc _ => querySays_lifted os started H enc)
end Go.Proofs.Ytlhmencjhhpacaa
