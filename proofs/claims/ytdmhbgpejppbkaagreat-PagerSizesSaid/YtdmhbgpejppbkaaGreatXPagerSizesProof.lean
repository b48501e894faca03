/- PagerSizes: no answer of a pager hangs on how many pages are at hand. No condition beyond the row's own. -/
import Derived.Test.YtdmhbgpejppbkaaGreatXGaa
import Derived.Test.YtdmhbgpejppbkaaGreatXGby
import Derived.Test.YtdmhbgpejppbkaaGreatXGbx
set_option maxRecDepth 100000
namespace Go.Proofs.YtdmhbgpejppbkaaGreat
open Go.ChangeShapes Go.WideShapes Go.ChangeAt Go.RowKit Go.Joins
theorem iJ (os:Os) (started:os.Started) (H:Type) (enc:TypeId × Value→H):
  ReturnsInHanded {} Tryz.checked os 3 .any (Rows.pagerSizesSpec.pre6 enc Tryz.prog Tryz.f3 Rows.pagerSizesRow.domain false) (Rows.pagerSizesSpec.post enc Tryz.prog Tryz.f3 false true false false):=by
 refine returnsInHanded_of_change (C:=Tryz.checked) zR started (by kernel_rfl) Tryz.func3
  (ChangeSpec.witness6 (enc:=enc) (C:=Tryz.checked) false ⟨#[],#[.int .i64 0,.int .i64 0,.slice none 0 0],[]⟩ 8 (by kernel_rfl) (by kernel_rfl) (by kernel_rfl) (by kernel_rfl)) ?_
 intro W base args ds gs before hval0 hW _ _;have hval:∀ (j:Nat) t v,Tryz.f3.params[j]?=some t→args[j]?=some v→Value.okWide Tryz.prog W .any base t v:=hval0;have hW':=hW;obtain ⟨p,q,hA0,hV,rfl,hfz,hnd⟩:=hW;have hA:DataW.TrodAll enc Tryz.prog W 0 (fun _=>true) true Tryz.f3.params.toList args.toList ds p:=hA0;rw [Tryz.params3] at hA hval;obtain ⟨v0,v1,v2,d0,d1,d2,p0,p1,p2,rfl,rfl,rfl,h0,h1,h2⟩:=trodAll_three hA;have hlt:∀ x ∈ p0 ++ p1 ++ p2,x.block<W.heap.size:=fun x hx=>hW'.lt x (List.mem_append_left _ hx)
 obtain ⟨a,rfl,rfl,rfl,-⟩:=open_int Tryz.underlying3 (hval 0 3 v0 rfl rfl) h0;obtain ⟨b,rfl,rfl,rfl,-⟩:=open_int Tryz.underlying3 (hval 1 3 v1 rfl rfl) h1;obtain ⟨acts,hp,hln,hfs⟩:=gI (okWide_slice Tryz.underlying22 (hval 2 22 v2 rfl rfl)) h2 (fun x hx=>hlt x (by simp [hx]));refine (ru a b v2 acts W hp hln hfs).mono fun e W' ⟨he,hb⟩=>?_
 exact ⟨_,he,lE rfl rfl (of_decide_eq_true (by kernel_rfl)) rfl hW' hb⟩
theorem pagerSizes_holds:Rows.PagerSizesSaid:=
 OpenClaim.holds_of_wide 3 Tryz.f3 rfl rfl rfl rfl rfl rfl rfl ⟨rfl,rfl,rfl,rfl,rfl⟩ rfl rfl rfl rfl rfl (by kernel_rfl) Tryz.func3 (by kernel_rfl)
  (of_decide_eq_true (by kernel_rfl)) (by unfold Func.isWrapper;rw [if_neg (of_decide_eq_false (by kernel_rfl))];exact ⟨rfl,rfl⟩)
  (fun os started H enc _=>iJ os started H enc)
end Go.Proofs.YtdmhbgpejppbkaaGreat
