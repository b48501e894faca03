/- TreeBuilds: a tree that is built of pairs is right, holds just these, and was laid on new pages alone; pairs that can't be are refused. The row lists unicode/utf8.acceptRanges and .first; the card ties them to the program's text (a pruned copy). No condition beyond the row's own. -/
import Derived.Test.YtknioodagnjchaaGreatDoorBGu
import Derived.Test.YtknioodagnjchaaGreatDoorBGn
import Derived.Test.YtknioodagnjchaaGreatDoorCards
import Derived.Test.YtknioodagnjchaaGreatDoorTie
import Derived.LaidMore
import Derived.Lay
import Derived.Shelf.Vars
import Derived.SevenTiedAt
import Derived.Stop.Joined
set_option maxRecDepth 100000
namespace Go.Proofs.YtknioodagnjchaaGreatDoor
open Go.Proofs.Tryz renaming prog->Bt,f13->Bv,params13->Bw
open Go.ChangeShapes Go.WideShapes Go.ChangeAt Go.RowKit Go.Joins
def gy:List (String × DataW Unit):=Rows.treeBuildsRow.laid
theorem ke (os:Os) (started:os.Started) (H:Type) (enc:TypeId × Value->H):
  ReturnsInHanded {} Tryz.checked os 13 .any (fun w args=>(Rows.treeBuildsSpec.pre enc Bt Bv Rows.treeBuildsRow.domain false w args/\laidMetH Bt gy w)/\sizedMet enc Bt Bv (OpenSpec.ofChange Rows.treeBuildsSpec) false w args)
   (Rows.treeBuildsSpec.post enc Bt Bv false true false false):=by
 refine returnsInHanded_of_calls zy started (by kernel_rfl)
  (ChangeSpec.witness_shaped (enc:=enc) (C:=Tryz.checked) (os:=os) (X:=fun w _=>laidMetH Bt gy w) false (World.laidAll Bt os gy) #[.slice none 0 0,.int .i64 0,.bool false] 8 (World.laidAll_os _ _ _)
    (World.shaped_of_ZipB (by kernel_rfl) (by kernel_rfl)) (by kernel_rfl) (by kernel_rfl) (by kernel_rfl)
    (by rw [MakeChecks.laidMetH_plain _ _ _ (by kernel_rfl)];exact laidMet_laidAll _ (by kernel_rfl) (by kernel_rfl))) ?_
 intro w tape i _ _ _ hok hpre hholds;obtain ⟨_,_,_,fn',hfn',_,_,_,_,hval1⟩:=hok;have e:fn'=Bv:=Option.some.inj (hfn'.symm.trans Tryz.func13);subst e;obtain ⟨⟨⟨ds,gs,before,hw1,hc⟩,hx⟩,hz⟩:=hpre;have hW:=DataW.Whole.of_heap (w':=w.forCall tape i) (by rfl) hw1
 suffices Calls Bt 13 i.args (w.forCall tape i) fun e W'=>∃ v,e=.returned v/\Rows.treeBuildsSpec.post enc Bt Bv false true false false (w.forCall tape i) i.args v W' from
  this.mono fun e W' ⟨v,he,hp⟩=>by subst he;exact ChangeSpec.post_blind hp
 clear hw1 hz hx hc hholds;generalize w.forCall tape i=W at *;generalize i.args=args at *;have hval:∀ (j:Nat) t v,Tryz.f13.params[j]?=some t->args[j]?=some v->Value.okWide Bt W .any w.heap.size t v:=hval1;have hW':=hW;obtain ⟨p,q,hA0,hV,rfl,hfz,hnd⟩:=hW;have hA:DataW.TrodAll enc Bt W 0 (fun _=>true) true Tryz.f13.params.toList args.toList ds p:=hA0;rw [Bw] at hA hval;obtain ⟨v0,v1,v2,d0,d1,d2,p0,p1,p2,rfl,rfl,rfl,h0,h1,h2⟩:=trodAll_three hA;have hlt:∀ x ∈ p0 ++ p1 ++ p2,x.block<W.heap.size:=fun x hx=>hW'.lt x (List.mem_append_left _ hx)
 obtain ⟨keys,hp,-⟩:=ug (okWide_slice Tryz.underlying22 (hval 0 22 v0 rfl rfl)) h0 (fun x hx=>hlt x (by simp [hx]));obtain ⟨size,rfl,rfl,rfl,-⟩:=open_int Tryz.underlying3 (hval 1 3 v1 rfl rfl) h1;obtain ⟨again,rfl,rfl,rfl⟩:=open_bool Tryz.underlying4 (hval 2 4 v2 rfl rfl) h2;refine (sM keys v0 size again W hp).mono fun e W' ⟨he,hb⟩=>?_
 exact ⟨_,he,wk rfl rfl (of_decide_eq_true (by kernel_rfl)) rfl hW' hb⟩
theorem mr:Rows.TreeBuildsSaid:=
 OpenClaim.holds_of_wide 13 Bv rfl rfl rfl rfl rfl rfl rfl ⟨rfl,rfl,rfl,rfl,rfl⟩ rfl rfl rfl rfl rfl (by kernel_rfl) Tryz.func13 (by kernel_rfl)
  (of_decide_eq_true (by kernel_rfl)) (by unfold Func.isWrapper;first | (rw [if_pos (by decide +kernel)];kernel_rfl) | (rw [if_neg (by decide +kernel)];exact ⟨rfl,rfl⟩))
  (fun os started H enc _=>ke os started H enc)
theorem treeBuilds_holds:Rows.TreeBuildsCardSaid:=
 Claim7.holds_tied_plain_at .later [] [.data,.pinned] true (true,"cbae5b208e03e217354d83d2018c8138b44cc3fe91af8418b851dd1a22487af9") false mr (fun _ h=>by cases h) (by kernel_rfl) (fun _ h=>by cases h) treeBuilds_row_tie rfl ⟨rfl,rfl⟩ (by kernel_rfl) rfl
  (fun f fn hf hfn=>by
    obtain rfl:f=13:=Option.some.inj ((show Tryz.prog.funcNamed "cahier/cahierlaw16.TreeBuilds"=some 13 by kernel_rfl).symm.trans hf) |>.symm;obtain rfl:fn=Bv:=(Option.some.inj (Tryz.func13.symm.trans hfn)).symm
    exact ⟨by kernel_rfl,fun j t ht=>by
     rw [Bw] at ht;have hm:t ∈ [22,3,4]:=by simpa using Array.mem_of_getElem? ht
     have hall:([22,3,4].all fun u=>!Tryz.prog.wantsStandIn u)=true:=by kernel_rfl
     exact (show Tryz.prog.wantsStandIn t=false by simpa using List.all_eq_true.1 hall t hm)⟩)
  (by kernel_rfl)
end Go.Proofs.YtknioodagnjchaaGreatDoor
