/- WalkStops: stopped anywhere, gone over again, and within itself, a tree gives the same pairs; it is left as it was. The row lists unicode/utf8.acceptRanges and .first; the card ties them to the program's text (a pruned copy). No condition beyond the row's own. -/
import Derived.Test.YtknioodagnjchaaGreatDoorVXg
import Derived.Test.YtknioodagnjchaaGreatDoorVAr
import Derived.Test.YtknioodagnjchaaGreatDoorCards
import Derived.Test.YtknioodagnjchaaGreatDoorTie
import Derived.LaidMore
import Derived.Lay
import Derived.Shelf.Vars
import Derived.SevenTiedAt
import Derived.Stop.Joined
set_option maxRecDepth 100000
namespace Go.Proofs.YtknioodagnjchaaGreatDoor
open Go.ChangeShapes Go.WideShapes Go.ChangeAt Go.RowKit Go.Joins
def laidWalkStops:List (String × DataW Unit):=Rows.walkStopsRow.laid
theorem walkStops_lifted (os:Os) (started:os.Started) (H:Type) (enc:TypeId × Value→H):
  ReturnsInHanded {} Tryz.checked os 11 .any (fun w args=>(Rows.walkStopsSpec.pre enc Tryz.prog Tryz.f11 Rows.walkStopsRow.domain false w args∧laidMetH Tryz.prog laidWalkStops w)∧sizedMet enc Tryz.prog Tryz.f11 (OpenSpec.ofChange Rows.walkStopsSpec) false w args)
   (Rows.walkStopsSpec.post enc Tryz.prog Tryz.f11 false true false false):=by
 refine returnsInHanded_of_calls own0 started (by kernel_rfl)
  (ChangeSpec.witness_shaped (enc:=enc) (C:=Tryz.checked) (os:=os) (X:=fun w _=>laidMetH Tryz.prog laidWalkStops w) false (World.laidAll Tryz.prog os laidWalkStops) #[.slice none 0 0,.int .i64 0,.string ⟨#[]⟩] 8 (World.laidAll_os _ _ _)
    (World.shaped_of_ZipB (by kernel_rfl) (by kernel_rfl)) (by kernel_rfl) (by kernel_rfl) (by kernel_rfl)
    (by rw [MakeChecks.laidMetH_plain _ _ _ (by kernel_rfl)];exact laidMet_laidAll _ (by kernel_rfl) (by kernel_rfl))) ?_
 intro w tape i _ _ _ hok hpre hholds
 obtain ⟨_,_,_,fn',hfn',_,_,_,_,hval1⟩:=hok
 have e:fn'=Tryz.f11:=Option.some.inj (hfn'.symm.trans Tryz.func11)
 subst e
 obtain ⟨⟨⟨ds,gs,before,hw1,hc⟩,hx⟩,hz⟩:=hpre
 have hW:=DataW.Whole.of_heap (w':=w.forCall tape i) (by rfl) hw1
 suffices Calls Tryz.prog 11 i.args (w.forCall tape i) fun e W'=>∃ v,e=.returned v∧Rows.walkStopsSpec.post enc Tryz.prog Tryz.f11 false true false false (w.forCall tape i) i.args v W' from
  this.mono fun e W' ⟨v,he,hp⟩=>by subst he;exact ChangeSpec.post_blind hp
 clear hw1 hz hx hc hholds
 generalize w.forCall tape i=W at *
 generalize i.args=args at *
 have hval:∀ (j:Nat) t v,Tryz.f11.params[j]?=some t→args[j]?=some v→Value.okWide Tryz.prog W .any w.heap.size t v:=hval1
 have hW':=hW
 obtain ⟨p,q,hA0,hV,rfl,hfz,hnd⟩:=hW
 have hA:DataW.TrodAll enc Tryz.prog W 0 (fun _=>true) true Tryz.f11.params.toList args.toList ds p:=hA0
 rw [Tryz.params11] at hA hval
 obtain ⟨v0,v1,v2,d0,d1,d2,p0,p1,p2,rfl,rfl,rfl,h0,h1,h2⟩:=trodAll_three hA
 have hlt:∀ x ∈ p0 ++ p1 ++ p2,x.block<W.heap.size:=fun x hx=>hW'.lt x (List.mem_append_left _ hx)
 obtain ⟨keys,hkeys',hlkeys⟩:=read_strs (okWide_slice Tryz.underlying22 (hval 0 22 v0 rfl rfl)) h0 (fun x hx=>hlt x (by simp [hx]))
 obtain ⟨stop,rfl,rfl,rfl,-⟩:=open_int Tryz.underlying3 (hval 1 3 v1 rfl rfl) h1
 obtain ⟨low,rfl,rfl,rfl,hllow⟩:=ChangeMaps.open_string Tryz.underlying9 (hval 2 9 v2 rfl rfl) h2
 refine (stops_any keys stop (bs low) v0 W hkeys').mono fun e W' ⟨he,hb⟩=>?_
 exact ⟨_,he,law_post rfl rfl (of_decide_eq_true (by kernel_rfl)) rfl hW' hb⟩
theorem walkStops_row:Rows.WalkStopsSaid:=
 OpenClaim.holds_of_wide 11 Tryz.f11 rfl rfl rfl rfl rfl rfl rfl ⟨rfl,rfl,rfl,rfl,rfl⟩ rfl rfl rfl rfl rfl (by kernel_rfl) Tryz.func11 (by kernel_rfl)
  (of_decide_eq_true (by kernel_rfl)) (by unfold Func.isWrapper;first | (rw [if_pos (by decide +kernel)];kernel_rfl) | (rw [if_neg (by decide +kernel)];exact ⟨rfl,rfl⟩))
  (fun os started H enc _=>walkStops_lifted os started H enc)
theorem walkStops_holds:Rows.WalkStopsCardSaid:=
 Claim7.holds_tied_plain_at .later [] [.data,.pinned] true (true,"cbae5b208e03e217354d83d2018c8138b44cc3fe91af8418b851dd1a22487af9") false walkStops_row (fun _ h=>by cases h) (by kernel_rfl) (fun _ h=>by cases h) walkStops_row_tie rfl ⟨rfl,rfl⟩ (by kernel_rfl) rfl
  (fun f fn hf hfn=>by
    obtain rfl:f=11:=Option.some.inj ((show Tryz.prog.funcNamed "cahier/cahierlaw17.WalkStops"=some 11 by kernel_rfl).symm.trans hf) |>.symm
    obtain rfl:fn=Tryz.f11:=(Option.some.inj (Tryz.func11.symm.trans hfn)).symm
    exact ⟨by kernel_rfl,fun j t ht=>by
     rw [Tryz.params11] at ht
     have hm:t ∈ [22,3,9]:=by simpa using Array.mem_of_getElem? ht
     have hall:([22,3,9].all fun u=>!Tryz.prog.wantsStandIn u)=true:=by kernel_rfl
     exact (show Tryz.prog.wantsStandIn t=false by simpa using List.all_eq_true.1 hall t hm)⟩)
  (by kernel_rfl)
end Go.Proofs.YtknioodagnjchaaGreatDoor
