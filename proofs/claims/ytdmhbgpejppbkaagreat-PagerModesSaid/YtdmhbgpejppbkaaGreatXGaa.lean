/- From a law's walk to its row: whatever the parameters' types, where the walk answers true and leaves all that lay there unturned. -/
import Derived.Test.YtdmhbgpejppbkaaGreatRows
import Derived.WalkKit
import Derived.ProofKit
import Derived.OpenShut
import Derived.JoinedCond
import Derived.Deep.Slices
import Derived.Deep.Fields
import Derived.Lib.SmallJoins
namespace Go.Proofs.YtdmhbgpejppbkaaGreat
open Go.ChangeShapes Go.WideShapes Go.ChangeAt Go.RowKit
theorem zR:ownKnob Tryz.prog.godebug=none:=by kernel_rfl
theorem wG:laidOutB Tryz.prog=true:=by kernel_rfl
theorem mr {H:Type} {enc:TypeId × Value→H} {W W':World} (hb:Below W.heap.size W W'):
  ∀ (ts:List TypeId) (vs:List Value) (ds:List (DataW H)) (ps:List MemPlace),(∀ t ∈ ts,Tryz.prog.readableRec t=true∧t<Tryz.prog.types.size)→
    DataW.TrodAll enc Tryz.prog W 0 (fun _=>true) true ts vs ds ps→(∀ x ∈ ps,x.block<W.heap.size)→DataW.TrodAll enc Tryz.prog W' 0 (fun b=>decide (b<W.heap.size)) true ts vs ds ps:=by
 intro ts
 induction ts with
 | nil=> intro vs ds ps _ h _;cases vs <;> cases ds <;> first | exact h | exact h.elim
 | cons t ts ih=>
   intro vs ds ps hr h hlt;cases vs with
   | nil=>exact h.elim
   | cons v vs=>
     cases ds with
     | nil=>exact h.elim
     | cons d ds=>
       obtain ⟨p,q,h1,h2,rfl⟩:=h;obtain ⟨hr1,hr2⟩:=hr t (List.mem_cons_self ..)
       exact ⟨p,q,Below.trod wG hr1 hr2 h1 hb (fun x hx=>hlt x (List.mem_append_left _ hx)),
        ih vs ds q (fun t ht=>hr t (List.mem_cons_of_mem _ ht)) h2 (fun x hx=>hlt x (List.mem_append_right _ hx)),rfl⟩
theorem lE {H:Type} {enc:TypeId × Value→H} {f:Func} {s:ChangeSpec} {W W':World} {args:Array Value} {ds gs:List (DataW H)} {before:List MemPlace}
  (hv:s.vars=[]) (hres:f.resultTypes=#[4]) (hrd:∀ t ∈ f.params.toList,Tryz.prog.readableRec t=true∧t<Tryz.prog.types.size)
  (hfn:s.fn H ds={ results:=[.lit (.bool true)],args:=ds })
  (hW:DataW.Whole enc Tryz.prog f.params.toList s.vars false W args.toList ds gs before) (hb:Below W.heap.size W W'):
  s.post enc Tryz.prog f false true false false W args (.bool true) W':=by
 have hW':=hW;obtain ⟨p,q,hA,hV,rfl,hfz,hnd⟩:=hW;rw [hv] at hV;obtain ⟨rfl,rfl⟩:=trodVars_none hV;have hlt:∀ x ∈ p,x.block<W.heap.size:=fun x hx=>hW'.lt x (by simpa using hx)
 have e:s.fn H (ds ++ [])={ results:=[.lit (.bool true)],args:=ds }:=by rw [List.append_nil];exact hfn
 refine ⟨ds,[],p ++ [],[],p,[],hW',?_,?_,?_,hb.frame _,fun h=>by cases h⟩
 ·rw [e,hres];exact trodAll_cons_mk (shut_bool Tryz.underlying4 _) trodAll_mk0
 ·rw [e];exact mr hb _ _ _ _ hrd hA hlt
 ·rw [e,hv];exact rfl
end Go.Proofs.YtdmhbgpejppbkaaGreat
