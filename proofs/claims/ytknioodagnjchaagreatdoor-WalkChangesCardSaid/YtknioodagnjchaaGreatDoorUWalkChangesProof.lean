/- WalkChanges: of a tree that changes behind each pair the keys rise (or fall), none twice, each as it is then; all keys that stay are met. The row lists unicode/utf8.acceptRanges and .first; the card ties them to the program's text (a pruned copy). No condition beyond the row's own. -/
import Derived.Test.YtknioodagnjchaaGreatDoorUWh
import Derived.Test.YtknioodagnjchaaGreatDoorUAr
import Derived.Test.YtknioodagnjchaaGreatDoorCards
import Derived.Test.YtknioodagnjchaaGreatDoorTie
import Derived.LaidMore
import Derived.Lay
import Derived.Shelf.Vars
import Derived.SevenTiedAt
import Derived.Stop.Joined
set_option maxRecDepth 100000
namespace Go.Proofs.YtknioodagnjchaaGreatDoor
open Go.ChangeShapes Go.WideShapes Go.ChangeAt Go.RowKit Go.Joins
def eO:List (String × DataW Unit):=Rows.walkChangesRow.laid
theorem iz (os:Os) (started:os.Started) (H:Type) (enc:TypeId × Value→H):
  ReturnsInHanded {} Tryz.checked os 12 .any (fun w args=>(Rows.walkChangesSpec.pre enc Tryz.prog Tryz.f12 Rows.walkChangesRow.domain false w args∧laidMetH Tryz.prog eO w)∧sizedMet enc Tryz.prog Tryz.f12 (OpenSpec.ofChange Rows.walkChangesSpec) false w args)
   (Rows.walkChangesSpec.post enc Tryz.prog Tryz.f12 false true false false):=by
 refine returnsInHanded_of_calls wh started (by kernel_rfl)
  (ChangeSpec.witness_shaped (enc:=enc) (C:=Tryz.checked) (os:=os) (X:=fun w _=>laidMetH Tryz.prog eO w) false (World.laidAll Tryz.prog os eO) #[.slice none 0 0,.slice none 0 0,.bool false] 8 (World.laidAll_os _ _ _)
    (World.shaped_of_ZipB (by kernel_rfl) (by kernel_rfl)) (by kernel_rfl) (by kernel_rfl) (by kernel_rfl)
    (by rw [MakeChecks.laidMetH_plain _ _ _ (by kernel_rfl)];exact laidMet_laidAll _ (by kernel_rfl) (by kernel_rfl))) ?_
 intro w tape i _ _ _ hok hpre hholds;obtain ⟨_,_,_,fn',hfn',_,_,_,_,hval1⟩:=hok;have e:fn'=Tryz.f12:=Option.some.inj (hfn'.symm.trans Tryz.func12);subst e;obtain ⟨⟨⟨ds,gs,before,hw1,hc⟩,hx⟩,hz⟩:=hpre;have hW:=DataW.Whole.of_heap (w':=w.forCall tape i) (by rfl) hw1
 suffices Calls Tryz.prog 12 i.args (w.forCall tape i) fun e W'=>∃ v,e=.returned v∧Rows.walkChangesSpec.post enc Tryz.prog Tryz.f12 false true false false (w.forCall tape i) i.args v W' from
  this.mono fun e W' ⟨v,he,hp⟩=>by subst he;exact ChangeSpec.post_blind hp
 clear hw1 hz hx hc hholds;generalize w.forCall tape i=W at *;generalize i.args=args at *;have hval:∀ (j:Nat) t v,Tryz.f12.params[j]?=some t→args[j]?=some v→Value.okWide Tryz.prog W .any w.heap.size t v:=hval1;have hW':=hW;obtain ⟨p,q,hA0,hV,rfl,hfz,hnd⟩:=hW;have hA:DataW.TrodAll enc Tryz.prog W 0 (fun _=>true) true Tryz.f12.params.toList args.toList ds p:=hA0;rw [Tryz.params12] at hA hval;obtain ⟨v0,v1,v2,d0,d1,d2,p0,p1,p2,rfl,rfl,rfl,h0,h1,h2⟩:=trodAll_three hA;have hlt:∀ x ∈ p0 ++ p1 ++ p2,x.block<W.heap.size:=fun x hx=>hW'.lt x (List.mem_append_left _ hx)
 obtain ⟨keys,hkeys',hlkeys⟩:=rg (okWide_slice Tryz.underlying22 (hval 0 22 v0 rfl rfl)) h0 (fun x hx=>hlt x (by simp [hx]));obtain ⟨changes,hchanges',-⟩:=nj (okWide_slice Tryz.underlying82 (hval 1 82 v1 rfl rfl)) h1 (fun x hx=>hlt x (by simp [hx]));obtain ⟨down,rfl,rfl,rfl⟩:=open_bool Tryz.underlying4 (hval 2 4 v2 rfl rfl) h2;refine (o5 keys changes down v0 v1 W hkeys' hchanges').mono fun e W' ⟨he,hb⟩=>?_
 exact ⟨_,he,sP rfl rfl (of_decide_eq_true (by kernel_rfl)) rfl hW' hb⟩
theorem kp:Rows.WalkChangesSaid:=
 OpenClaim.holds_of_wide 12 Tryz.f12 rfl rfl rfl rfl rfl rfl rfl ⟨rfl,rfl,rfl,rfl,rfl⟩ rfl rfl rfl rfl rfl (by kernel_rfl) Tryz.func12 (by kernel_rfl)
  (of_decide_eq_true (by kernel_rfl)) (by unfold Func.isWrapper;first | (rw [if_pos (by decide +kernel)];kernel_rfl) | (rw [if_neg (by decide +kernel)];exact ⟨rfl,rfl⟩))
  (fun os started H enc _=>iz os started H enc)
theorem walkChanges_holds:Rows.WalkChangesCardSaid:=
 Claim7.holds_tied_plain_at .later [] [.data,.pinned] true (true,"cbae5b208e03e217354d83d2018c8138b44cc3fe91af8418b851dd1a22487af9") false kp (fun _ h=>by cases h) (by kernel_rfl) (fun _ h=>by cases h) walkChanges_row_tie rfl ⟨rfl,rfl⟩ (by kernel_rfl) rfl
  (fun f fn hf hfn=>by
    obtain rfl:f=12:=Option.some.inj ((show Tryz.prog.funcNamed "cahier/cahierlaw17.WalkChanges"=some 12 by kernel_rfl).symm.trans hf) |>.symm;obtain rfl:fn=Tryz.f12:=(Option.some.inj (Tryz.func12.symm.trans hfn)).symm
    exact ⟨by kernel_rfl,fun j t ht=>by
     rw [Tryz.params12] at ht;have hm:t ∈ [22,82,4]:=by simpa using Array.mem_of_getElem? ht
     have hall:([22,82,4].all fun u=>!Tryz.prog.wantsStandIn u)=true:=by kernel_rfl
     exact (show Tryz.prog.wantsStandIn t=false by simpa using List.all_eq_true.1 hall t hm)⟩)
  (by kernel_rfl)
end Go.Proofs.YtknioodagnjchaaGreatDoor
