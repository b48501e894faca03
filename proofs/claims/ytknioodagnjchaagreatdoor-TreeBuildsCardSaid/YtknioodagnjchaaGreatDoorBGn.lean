/- walk: read, none, at; what its closures tell of a node. cahierref17: From, To over a list of pairs. The walk of cahierlaw16.TreeOrders. From a law's walk to its row: whatever the parameters' types, where the walk answers true and leaves all that lay there unturned. Arguments read as data: slices of structs, structs by value, as the walks take them. Arguments of the tree's and walk's laws, read as lists. -/
import Derived.Test.YtknioodagnjchaaGreatDoorBGi
import Derived.Test.YtknioodagnjchaaGreatDoorBGm
import Derived.Test.YtknioodagnjchaaGreatDoorRows
import Derived.Test.YtknioodagnjchaaGreatDoorBGa
import Derived.Test.YtknioodagnjchaaGreatDoorBGb
import Derived.Test.YtknioodagnjchaaGreatDoorBGf
import Derived.Deep.Cut
import Derived.Deep.CutRange
import Derived.WalkKit
import Derived.ProofKit
import Derived.OpenShut
import Derived.JoinedCond
import Derived.Deep.Slices
import Derived.Deep.Fields
import Derived.Lib.SmallJoins
namespace Go.Proofs.YtknioodagnjchaaGreatDoor
open Go.RowKit
def iX (p:Pr):List Value:=[.string (ap p.1),.string (ap p.2)]
theorem aV (p:Pr):(iX p).length=2:=rfl
theorem Sl.zW {w:World} {A:Option Addr} {n c k:Nat} {xs:List Pr} (h:Sl iX 2 w (.slice A n c) xs) (hk:k<xs.length):∃ b off,A=some ⟨b,off,none⟩/\b<w.heap.size/\w.cell? ⟨b,off+k * 2,none⟩=some (.string (ap xs[k].1))/\w.cell? ⟨b,off+k * 2+1,none⟩=some (.string (ap xs[k].2)):=by
 obtain ⟨A',c',he,h⟩:=h;injection he with e1 e2 e3
 subst e1 e2;obtain ⟨b,off,rfl,hlt,hc⟩:=h (by rintro rfl;simp at hk);have:=hc k xs[k] (List.getElem?_eq_getElem hk);exact ⟨b,off,rfl,hlt,this 0 _ rfl,this 1 _ rfl⟩
theorem so {a b:By}:((ap a).toList == (ap b).toList)=decide (a=b):=by rw [ay,ay];by_cases h:a=b <;> simp [h]
theorem xP (x:Int) (m:Int) (h0:0<m) (h1:m<=1000000):∃ k:Nat,wrap64 ((IntKind.u64.wrap x).tmod m)=(k:Int)/\(k:Int)<m:=by
 have h0':0<=IntKind.u64.wrap x:=by rw [IntKind.wrap_u64];omega
 rw [Int.tmod_eq_emod_of_nonneg h0'];have h2:=Int.emod_nonneg (IntKind.u64.wrap x) (show m≠0 by omega);have h3:=Int.emod_lt_of_pos (IntKind.u64.wrap x) h0;generalize IntKind.u64.wrap x % m=r at *;refine ⟨r.toNat,?_,by omega⟩;unfold wrap64;omega
end Go.Proofs.YtknioodagnjchaaGreatDoor
namespace Go.Proofs.YtknioodagnjchaaGreatDoor
open Go.ChangeShapes Go.WideShapes Go.ChangeAt Go.RowKit
theorem zy:ownKnob Tryz.prog.godebug=none:=by kernel_rfl
theorem wm:laidOutB Tryz.prog=true:=by kernel_rfl
theorem nO {H:Type} {enc:TypeId × Value->H} {W W':World} (hb:Below W.heap.size W W'):
  ∀ (ts:List TypeId) (vs:List Value) (ds:List (DataW H)) (ps:List MemPlace),(∀ t ∈ ts,Tryz.prog.readableRec t=true/\t<Tryz.prog.types.size)->
    DataW.TrodAll enc Tryz.prog W 0 (fun _=>true) true ts vs ds ps->(∀ x ∈ ps,x.block<W.heap.size)->DataW.TrodAll enc Tryz.prog W' 0 (fun b=>decide (b<W.heap.size)) true ts vs ds ps:=by
 intro ts
 induction ts with
 | nil=> intro vs ds ps _ h _;cases vs <;> cases ds <;> first | exact h | exact h.elim
 | cons t ts ih=>
   intro vs ds ps hr h hlt;cases vs with
   | nil=>exact h.elim
   | cons v vs=>
     cases ds with
     | nil=>exact h.elim
     | cons d ds=>
       obtain ⟨p,q,h1,h2,rfl⟩:=h;obtain ⟨hr1,hr2⟩:=hr t (List.mem_cons_self ..)
       exact ⟨p,q,Below.trod wm hr1 hr2 h1 hb (fun x hx=>hlt x (List.mem_append_left _ hx)),
        ih vs ds q (fun t ht=>hr t (List.mem_cons_of_mem _ ht)) h2 (fun x hx=>hlt x (List.mem_append_right _ hx)),rfl⟩
theorem wk {H:Type} {enc:TypeId × Value->H} {f:Func} {s:ChangeSpec} {W W':World} {args:Array Value} {ds gs:List (DataW H)} {before:List MemPlace}
  (hv:s.vars=[]) (hres:f.resultTypes=#[4]) (hrd:∀ t ∈ f.params.toList,Tryz.prog.readableRec t=true/\t<Tryz.prog.types.size)
  (hfn:s.fn H ds={ results:=[.lit (.bool true)],args:=ds })
  (hW:DataW.Whole enc Tryz.prog f.params.toList s.vars false W args.toList ds gs before) (hb:Below W.heap.size W W'):
  s.post enc Tryz.prog f false true false false W args (.bool true) W':=by
 have hW':=hW;obtain ⟨p,q,hA,hV,rfl,hfz,hnd⟩:=hW;rw [hv] at hV;obtain ⟨rfl,rfl⟩:=trodVars_none hV;have hlt:∀ x ∈ p,x.block<W.heap.size:=fun x hx=>hW'.lt x (by simpa using hx)
 have e:s.fn H (ds ++ [])={ results:=[.lit (.bool true)],args:=ds }:=by rw [List.append_nil];exact hfn
 refine ⟨ds,[],p ++ [],[],p,[],hW',?_,?_,?_,hb.frame _,fun h=>by cases h⟩
 ·rw [e,hres];exact trodAll_cons_mk (shut_bool Tryz.underlying4 _) trodAll_mk0
 ·rw [e];exact nO hb _ _ _ _ hrd hA hlt
 ·rw [e,hv];exact rfl
end Go.Proofs.YtknioodagnjchaaGreatDoor
namespace Go.Proofs.YtknioodagnjchaaGreatDoor
open Go.ChangeShapes Go.WideShapes Go.ChangeAt Go.RowKit Go.Deep Go.Joins
section
variable {H:Type} {enc:TypeId × Value->H} {P:Program} {w:World} {base:Nat} {spare:Nat->Bool} {held:Bool}
theorem lE {α:Type} {R:Nat->α->Prop}:∀ n,(∀ i,i<n->∃ x,R i x)->∃ xs:List α,xs.length=n/\∀ (i:Nat) (h:i<xs.length),R i xs[i]
 | 0,_=>⟨[],rfl,fun i h=>by simp at h⟩
 | n+1,h=>by
   obtain ⟨xs,hl,hx⟩:=lE n fun i hi=>h i (by omega)
   obtain ⟨y,hy⟩:=h n (by omega);refine ⟨xs ++ [y],by simp [hl],fun i hi=>?_⟩;simp at hi;by_cases e:i<xs.length
   ·rw [List.getElem_append_left e];exact hx i e
   ·have:i=xs.length:=by omega
    subst this;rw [List.getElem_append_right (by omega)];simpa [hl] using hy
theorem qg {α:Type} {f:α->List Value} {size:Nat} {a:Addr} {len c:Nat} {xs:List α} (hl:xs.length=len) (hp:0<size) (hsz:∀ x,(f x).length=size)
  (hc:∀ (i:Nat) (h:i<xs.length),∀ j u,(f xs[i])[j]?=some u->w.cell? (a.add (i * size+j))=some u) (hlt:0<len->a.block<w.heap.size):Sl f size w (.slice (some a) len c) xs:=by
 subst hl;refine ⟨some a,c,rfl,fun hne=>?_⟩;have h0:0<xs.length:=List.length_pos_iff.2 hne;have hj:0<(f xs[0]).length:=by rw [hsz];exact hp
 have h00:=hc 0 h0 0 _ (List.getElem?_eq_getElem hj);simp only [Nat.zero_mul,Nat.add_zero] at h00;have hs:a.spot=none:=World.cell?_spot (a:=a) (by simpa [Addr.add] using h00);obtain ⟨b,off,s⟩:=a;simp only at hs;subst hs;refine ⟨b,off,rfl,hlt h0,fun i x hx j u hu=>?_⟩;obtain ⟨hi,rfl⟩:=List.getElem?_eq_some_iff.1 hx;have:=hc i hi j u hu;unfold Addr.add at this
 split at this
 ·rename_i h;rw [show off+i * size+j=off from by omega];exact this
 ·rw [show off+i * size+j=off+(i * size+j) from by omega];exact this
end
end Go.Proofs.YtknioodagnjchaaGreatDoor
namespace Go.Proofs.YtknioodagnjchaaGreatDoor
open Go.ChangeShapes Go.WideShapes Go.ChangeAt Go.RowKit Go.Deep Go.Joins
section
variable {H:Type} {enc:TypeId × Value->H} {w:World}
theorem uY:Tryz.prog.cellsOf 9=1:=by kernel_rfl
theorem rW {α:Type} {f:α->List Value} {size:Nat} {Q:α->Prop} {t e:TypeId} {fuel:Nat} {cs:List Value} {y:DataW H × List MemPlace} (ht:Tryz.prog.underlying t=some (.slice e)) (hC:Tryz.prog.cellsOf e=size) (hp:0<size) (hsz:∀ x,(f x).length=size)
  (hel:∀ (n:Nat) (cs':List Value) (z:DataW H × List MemPlace),DataW.trod enc Tryz.prog w 0 (fun _=>true) true n e cs'=some z->(∀ x ∈ z.2,x.block<w.heap.size)->∃ x:α,f x=cs'/\Q x)
  (h:DataW.trod enc Tryz.prog w 0 (fun _=>true) true fuel t cs=some y) (hlt:∀ x ∈ y.2,x.block<w.heap.size):∃ (v:Value) (xs:List α),cs=[v]/\Sl f size w v xs/\∀ x ∈ xs,Q x:=by
 rcases open_slice ht h with ⟨h0,_⟩ | ⟨a,len,cap,m,n,D,Pl,hcs,hb,hl,hm,hmm,hx,hi⟩
 ·exact ⟨_,[],h0,Sl.nil,fun x hx=>by cases hx⟩
 ·simp only [if_true] at hmm
  obtain ⟨xs,hxl,hR⟩:=lE (R:=fun i (x:α)=>(∀ j u,(f x)[j]?=some u->w.cell? (a.add (i * size+j))=some u)/\Q x) len (fun i hil=>by
   obtain ⟨cs',hc,ht'⟩:=hi i (by omega);rw [hC] at hc;obtain ⟨_,hcl,hat⟩:=World.cells?_some hc;obtain ⟨x,hfx,hq⟩:=hel n cs' _ ht' (fun z hz=>hlt z (by rw [hx];exact List.mem_append_right _ (List.mem_flatMap.2 ⟨i,List.mem_range.2 (by omega),hz⟩)));refine ⟨x,fun j u hu=>?_,hq⟩;rw [hfx] at hu;have hj:j<size:=by
    rcases Nat.lt_or_ge j cs'.length with h | h
    ·omega
    ·rw [List.getElem?_eq_none h] at hu;cases hu
   rw [<- Go.Deep.add_add,hat j hj];exact hu)
  refine ⟨_,xs,hcs,qg hxl hp hsz (fun i h=>(hR i h).1) (fun h0=>?_),fun x hx'=>?_⟩
  ·refine hlt (.cell a.block a.off) ?_;rw [hx];refine List.mem_append_left _ ?_;rw [hC];exact List.mem_map.2 ⟨0,List.mem_range.2 (Nat.mul_pos (by omega) hp),rfl⟩
  ·obtain ⟨i,hi',rfl⟩:=List.getElem_of_mem hx';exact (hR i hi').2
theorem yH {n:Nat} {cs:List Value} {z:DataW H × List MemPlace} (h:DataW.trod enc Tryz.prog w 0 (fun _=>true) true n 9 cs=some z):∃ x:By,sC x=cs/\x.length<=maxLen:=by obtain ⟨x,hc,_,hw⟩:=DataW.trod_string Tryz.underlying9 h;exact ⟨bs x,hc.symm,hw⟩
end
theorem ug {H:Type} {enc:TypeId × Value->H} {w:World} {v:Value} {d:DataW H} {p:List MemPlace} (hv:∃ a len cap,v=.slice a len cap) (h:DataW.Trod enc Tryz.prog w 0 (fun _=>true) true 22 v d p) (hlt:∀ x ∈ p,x.block<w.heap.size):
  ∃ xs:List By,Sl sC 1 w v xs/\∀ x ∈ xs,x.length<=maxLen:=by
 obtain ⟨a0,len0,cap0,rfl⟩:=hv;obtain ⟨fuel,hf⟩:=h;obtain ⟨v1,xs1,e1,hs1,hq1⟩:=rW (f:=sC) (size:=1) (Q:=fun x=>x.length<=maxLen) Tryz.underlying22 uY (by omega) aG (fun n cs' z hz _=>yH hz) hf hlt;simp [Value.cells] at e1;subst e1;exact ⟨xs1,hs1,hq1⟩
end Go.Proofs.YtknioodagnjchaaGreatDoor
