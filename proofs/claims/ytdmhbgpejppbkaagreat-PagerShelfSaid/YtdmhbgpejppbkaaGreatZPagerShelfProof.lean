/- PagerShelf: in a transaction as a shelf. No condition beyond the row's own. -/
import Derived.Test.YtdmhbgpejppbkaaGreatZGaa
import Derived.Test.YtdmhbgpejppbkaaGreatZGbj
import Derived.Test.YtdmhbgpejppbkaaGreatZGbr
set_option maxRecDepth 100000
namespace Go.Proofs.YtdmhbgpejppbkaaGreat
open Go.ChangeShapes Go.WideShapes Go.ChangeAt Go.RowKit Go.Joins
theorem ft (os:Os) (started:os.Started) (H:Type) (enc:TypeId × Value→H):
  ReturnsInHanded {} Tryz.checked os 8 .any (Rows.pagerShelfSpec.pre6 enc Tryz.prog Tryz.f8 Rows.pagerShelfRow.domain false) (Rows.pagerShelfSpec.post enc Tryz.prog Tryz.f8 false true false false):=by
 refine returnsInHanded_of_change (C:=Tryz.checked) uU started (by kernel_rfl) Tryz.func8
  (ChangeSpec.witness6 (enc:=enc) (C:=Tryz.checked) false ⟨#[],#[.int .i64 0,.slice none 0 0],[]⟩ 8 (by kernel_rfl) (by kernel_rfl) (by kernel_rfl) (by kernel_rfl)) ?_
 intro W base args ds gs before hval0 hW _ _;have hval:∀ (j:Nat) t v,Tryz.f8.params[j]?=some t→args[j]?=some v→Value.okWide Tryz.prog W .any base t v:=hval0;have hW':=hW;obtain ⟨p,q,hA0,hV,rfl,hfz,hnd⟩:=hW;have hA:DataW.TrodAll enc Tryz.prog W 0 (fun _=>true) true Tryz.f8.params.toList args.toList ds p:=hA0;rw [Tryz.params8] at hA hval;obtain ⟨v0,v1,d0,d1,p0,p1,rfl,rfl,rfl,h0,h1⟩:=trodAll_two hA;have hlt:∀ x ∈ p0 ++ p1,x.block<W.heap.size:=fun x hx=>hW'.lt x (List.mem_append_left _ hx)
 obtain ⟨size,rfl,rfl,rfl,-⟩:=open_int Tryz.underlying3 (hval 0 3 v0 rfl rfl) h0;obtain ⟨acts,hp,hln,hfs⟩:=nS (okWide_slice Tryz.underlying22 (hval 1 22 v1 rfl rfl)) h1 (fun x hx=>hlt x (by simp [hx]));refine (mh oS size v1 acts W hp hln hfs).mono fun e W' ⟨he,hb⟩=>?_
 exact ⟨_,he,pZ rfl rfl (of_decide_eq_true (by kernel_rfl)) rfl hW' hb⟩
theorem pagerShelf_holds:Rows.PagerShelfSaid:=
 OpenClaim.holds_of_wide 8 Tryz.f8 rfl rfl rfl rfl rfl rfl rfl ⟨rfl,rfl,rfl,rfl,rfl⟩ rfl rfl rfl rfl rfl (by kernel_rfl) Tryz.func8 (by kernel_rfl)
  (of_decide_eq_true (by kernel_rfl)) (by unfold Func.isWrapper;rw [if_neg (of_decide_eq_false (by kernel_rfl))];exact ⟨rfl,rfl⟩)
  (fun os started H enc _=>ft os started H enc)
end Go.Proofs.YtdmhbgpejppbkaaGreat
