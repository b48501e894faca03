/- SchemaRefs: what a column is of is a table whose ids it can hold; ids are ints that may not be null; an index's column can be a key. No condition beyond the row's own. -/
import Derived.Test.YtlhmencjhhpacaaRefs
import Derived.Test.YtlhmencjhhpacaaRead
namespace Go.Proofs.Ytlhmencjhhpacaa
open Go.ChangeShapes Go.WideShapes Go.ChangeAt Go.RowKit Go.Joins

set_option maxRecDepth 100000 in
theorem schemaRefs_lifted (os : Os) (started : os.Started) (H : Type) (enc : TypeId × Value → H) :
    ReturnsInHanded {} Try.checked os 5 .any (Rows.schemaRefsSpec.pre6 enc Try.prog Try.f5 Rows.schemaRefsRow.domain false) (Rows.schemaRefsSpec.post enc Try.prog Try.f5 false true false false) := by
  refine returnsInHanded_of_change (C := Try.checked) own0 started (by kernel_rfl) Try.func5
    (ChangeSpec.witness6 (enc := enc) (C := Try.checked) false ⟨#[], #[.agg #[.int .i64 0, .int .i64 0, .string ⟨#[]⟩], .string ⟨#[]⟩], []⟩ 8 (by kernel_rfl) (by kernel_rfl) (by kernel_rfl) (by kernel_rfl)) ?_
  intro W base args ds gs before hval0 hW _ _
  have hval : ∀ (j : Nat) t v, Try.f5.params[j]? = some t → args[j]? = some v → Value.okWide Try.prog W .any base t v := hval0
  have hW' := hW
  obtain ⟨p, q, hA0, hV, rfl, hfz, hnd⟩ := hW
  have hA : DataW.TrodAll enc Try.prog W 0 (fun _ => true) true Try.f5.params.toList args.toList ds p := hA0
  rw [Try.params5] at hA hval
  obtain ⟨v0, v1, d0, d1, p0, p1, rfl, rfl, rfl, h0, h1⟩ := trodAll_two hA
  obtain ⟨s1, rfl, rfl, rfl, hs1⟩ := ChangeMaps.open_string Try.underlying9 (hval 1 9 v1 rfl rfl) h1
  obtain ⟨c0, c1, c2, y0, y1, y2, n, rfl, rfl, rfl, t0, t1, t2⟩ := open_agg3 Try.underlying44 (by kernel_rfl) (by kernel_rfl) (hval 0 44 v0 rfl rfl) h0
  obtain ⟨q0, e0, rfl, -⟩ := DataW.trod_int Try.underlying3 t0
  obtain ⟨q1, e1, rfl, -⟩ := DataW.trod_int Try.underlying3 t1
  obtain ⟨q2, e2, rfl, hq2⟩ := DataW.trod_string Try.underlying9 t2
  simp at e0 e1 e2
  subst e0 e1 e2
  refine (refs_any q0 q1 q2 s1 W hq2 hs1).mono fun e W' ⟨he, hb⟩ => ?_
  exact ⟨_, he, law_post rfl rfl (of_decide_eq_true (by kernel_rfl)) rfl hW' hb⟩

theorem schemaRefs_holds : Rows.SchemaRefsSaid :=
  OpenClaim.holds_of_wide 5 Try.f5 rfl rfl rfl rfl rfl rfl rfl ⟨rfl, rfl, rfl, rfl, rfl⟩ rfl rfl rfl rfl rfl (by kernel_rfl) Try.func5 (by kernel_rfl)
    (of_decide_eq_true (by kernel_rfl)) (by unfold Func.isWrapper; rw [if_neg (of_decide_eq_false (by kernel_rfl))]; exact ⟨rfl, rfl⟩)
    (fun os started H enc _ => schemaRefs_lifted os started H enc)
end Go.Proofs.Ytlhmencjhhpacaa
