/- PagerModes: journal and log answer alike. No condition beyond the row's own. -/
import Derived.Test.YtdmhbgpejppbkaaGreatXGaa
import Derived.Test.YtdmhbgpejppbkaaGreatXGbz
import Derived.Test.YtdmhbgpejppbkaaGreatXGbx
set_option maxRecDepth 100000
namespace Go.Proofs.YtdmhbgpejppbkaaGreat
open Go.ChangeShapes Go.WideShapes Go.ChangeAt Go.RowKit Go.Joins
theorem iK (os:Os) (started:os.Started) (H:Type) (enc:TypeId × Value→H):
  ReturnsInHanded {} Tryz.checked os 4 .any (Rows.pagerModesSpec.pre6 enc Tryz.prog Tryz.f4 Rows.pagerModesRow.domain false) (Rows.pagerModesSpec.post enc Tryz.prog Tryz.f4 false true false false):=by
 refine returnsInHanded_of_change (C:=Tryz.checked) zR started (by kernel_rfl) Tryz.func4
  (ChangeSpec.witness6 (enc:=enc) (C:=Tryz.checked) false ⟨#[],#[.int .i64 0,.slice none 0 0],[]⟩ 8 (by kernel_rfl) (by kernel_rfl) (by kernel_rfl) (by kernel_rfl)) ?_
 intro W base args ds gs before hval0 hW _ _;have hval:∀ (j:Nat) t v,Tryz.f4.params[j]?=some t→args[j]?=some v→Value.okWide Tryz.prog W .any base t v:=hval0;have hW':=hW;obtain ⟨p,q,hA0,hV,rfl,hfz,hnd⟩:=hW;have hA:DataW.TrodAll enc Tryz.prog W 0 (fun _=>true) true Tryz.f4.params.toList args.toList ds p:=hA0;rw [Tryz.params4] at hA hval;obtain ⟨v0,v1,d0,d1,p0,p1,rfl,rfl,rfl,h0,h1⟩:=trodAll_two hA;have hlt:∀ x ∈ p0 ++ p1,x.block<W.heap.size:=fun x hx=>hW'.lt x (List.mem_append_left _ hx)
 obtain ⟨size,rfl,rfl,rfl,-⟩:=open_int Tryz.underlying3 (hval 0 3 v0 rfl rfl) h0;obtain ⟨acts,hp,hln,hfs⟩:=gI (okWide_slice Tryz.underlying22 (hval 1 22 v1 rfl rfl)) h1 (fun x hx=>hlt x (by simp [hx]));refine (ry size v1 acts W hp hln hfs).mono fun e W' ⟨he,hb⟩=>?_
 exact ⟨_,he,lE rfl rfl (of_decide_eq_true (by kernel_rfl)) rfl hW' hb⟩
theorem pagerModes_holds:Rows.PagerModesSaid:=
 OpenClaim.holds_of_wide 4 Tryz.f4 rfl rfl rfl rfl rfl rfl rfl ⟨rfl,rfl,rfl,rfl,rfl⟩ rfl rfl rfl rfl rfl (by kernel_rfl) Tryz.func4 (by kernel_rfl)
  (of_decide_eq_true (by kernel_rfl)) (by unfold Func.isWrapper;rw [if_neg (of_decide_eq_false (by kernel_rfl))];exact ⟨rfl,rfl⟩)
  (fun os started H enc _=>iK os started H enc)
end Go.Proofs.YtdmhbgpejppbkaaGreat
