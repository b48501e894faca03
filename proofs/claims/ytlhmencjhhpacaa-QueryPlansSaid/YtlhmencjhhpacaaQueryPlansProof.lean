/- QueryPlans: whatever a plan leaves out doesn't match. No condition beyond the row's own. -/
import Derived.Test.YtlhmencjhhpacaaPlans
import Derived.Test.YtlhmencjhhpacaaRead2
namespace Go.Proofs.Ytlhmencjhhpacaa
open Go.ChangeShapes Go.WideShapes Go.ChangeAt Go.RowKit Go.Joins

set_option maxRecDepth 100000 in
theorem queryPlans_lifted (os : Os) (started : os.Started) (H : Type) (enc : TypeId × Value → H) :
    ReturnsInHanded {} Try.checked os 9 .any (Rows.queryPlansSpec.pre6 enc Try.prog Try.f9 Rows.queryPlansRow.domain false) (Rows.queryPlansSpec.post enc Try.prog Try.f9 false true false false) := by
  refine returnsInHanded_of_change (C := Try.checked) own0 started (by kernel_rfl) Try.func9
    (ChangeSpec.witness6 (enc := enc) (C := Try.checked) false ⟨#[], #[.agg #[.int .i64 0, .slice none 0 0, .slice none 0 0, .int .i64 0, .bool false, .int .i64 0], .slice none 0 0, .slice none 0 0], []⟩ 8 (by kernel_rfl) (by kernel_rfl) (by kernel_rfl) (by kernel_rfl)) ?_
  intro W base args ds gs before hval0 hW _ _
  have hval : ∀ (j : Nat) t v, Try.f9.params[j]? = some t → args[j]? = some v → Value.okWide Try.prog W .any base t v := hval0
  have hW' := hW
  obtain ⟨p, q, hA0, hV, rfl, hfz, hnd⟩ := hW
  have hA : DataW.TrodAll enc Try.prog W 0 (fun _ => true) true Try.f9.params.toList args.toList ds p := hA0
  rw [Try.params9] at hA hval
  obtain ⟨v0, v1, v2, d0, d1, d2, p0, p1, p2, rfl, rfl, rfl, h0, h1, h2⟩ := trodAll_three hA
  have hlt : ∀ x ∈ p0 ++ p1 ++ p2, x.block < W.heap.size := fun x hx => hW'.lt x (List.mem_append_left _ hx)
  obtain ⟨t, cv, lv, ord, down, lim, conds, cs, rfl, hcv, hlv, hcs⟩ := read_query (hval 0 50 v0 rfl rfl) h0 (fun x hx => hlt x (by simp [hx]))
  obtain ⟨R, hrv, hL, hs⟩ := read_rows (okWide_slice Try.underlying59 (hval 1 59 v1 rfl rfl)) h1 (fun x hx => hlt x (by simp [hx]))
  obtain ⟨list, hiv, hns⟩ := read_ixs (okWide_slice Try.underlying51 (hval 2 51 v2 rfl rfl)) h2 (fun x hx => hlt x (by simp [hx]))
  refine (plans_any t cv lv v1 v2 conds cs ord down lim R list W hcv hlv hrv hiv hL hcs hs hns).mono fun e W' ⟨he, hb⟩ => ?_
  exact ⟨_, he, law_post rfl rfl (of_decide_eq_true (by kernel_rfl)) rfl hW' hb⟩

theorem queryPlans_holds : Rows.QueryPlansSaid :=
  OpenClaim.holds_of_wide 9 Try.f9 rfl rfl rfl rfl rfl rfl rfl ⟨rfl, rfl, rfl, rfl, rfl⟩ rfl rfl rfl rfl rfl (by kernel_rfl) Try.func9 (by kernel_rfl)
    (of_decide_eq_true (by kernel_rfl)) (by unfold Func.isWrapper; rw [if_neg (of_decide_eq_false (by kernel_rfl))]; exact ⟨rfl, rfl⟩)
    (fun os started H enc _ => queryPlans_lifted os started H enc)
end Go.Proofs.Ytlhmencjhhpacaa
