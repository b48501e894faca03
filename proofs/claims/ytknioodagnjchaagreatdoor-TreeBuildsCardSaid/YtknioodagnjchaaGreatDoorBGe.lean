/- Where a key stands, pairs by key, plain. The cuts of a node, plain. A kid in two, two kids in one, plain. A kid that was changed, plain. A change of a tree, plain. Find, list, drop; how many pages; an armed shelf, plain. -/
import Derived.Test.YtknioodagnjchaaGreatDoorBGd
namespace Go.Proofs.YtknioodagnjchaaGreatDoor
open List renaming length_append->Bt,mem_append_right->Bv,length_cons->Bw,perm_iff_count->Bx,length_take->Bz,count_append->BA,mem_cons_of_mem->BB,mem_append_left->BC,take_append_drop->BD,count_cons->BE,drop_eq_getElem_cons->BF,getD_eq_getElem?_getD->BG,getElem?_eq_getElem->BH,mem_cons_self->BI,mem_of_mem_take->BJ,mem_of_mem_drop->BK,drop_sublist->BL,drop_of_length_le->BM,not_mem_nil->BO,length_drop->BP,nil_append->BQ,length_nil->BR,take_sublist->BS,getElem_mem->BT,mem_map_of_mem->BU,sublist_append_left->BV,append_nil->BW,filter_cons_of_neg->BX,take_succ_eq_append_getElem->BY,eraseIdx_eq_take_drop_succ->BZ,takeWhile_cons->Cd,length->Cf,append_assoc->Cg,filter_cons_of_pos->Ci,eq_nil_or_concat->Cj,concat_eq_append->Ck,eraseIdx_sublist->Cl,dropWhile_cons->Cn,filter_append->Co,find?_append->Cp,cons_append->Cq,sum_append->Cr,sum_cons->Cs
open Nat renaming lt_or_ge->BN,min_eq_left->Cc,le_refl->Cm
open Bool renaming and_eq_true->Ca
open Option renaming getD_some->Cb
theorem sY {α:Type} (p:α->Bool):∀ l:List α,l.take (l.takeWhile p).length=l.takeWhile p
 | []=>rfl
 | a :: l=>by
   rw [Cd]
   split
   ·rw [Bw,List.take_succ_cons,sY p l]
   ·rfl
theorem sZ {α:Type} (p:α->Bool):∀ l:List α,l.drop (l.takeWhile p).length=l.dropWhile p
 | []=>rfl
 | a :: l=>by
   rw [Cd,Cn]
   split
   ·rw [Bw,List.drop_succ_cons,sZ p l]
   ·rfl
theorem yE {α:Type} {p:α->Bool} {l:List α} {x:α} (h:x ∈ l.takeWhile p):p x=true:=by
 induction l with
 | nil=>exact absurd h BO
 | cons a l ih=>
   rw [Cd] at h
   split at h
   ·rcases List.mem_cons.1 h with rfl | h
    ·assumption
    ·exact ih h
   ·exact absurd h BO
theorem zl {ks:List By} {k:By} (hs:ks.Pairwise fun a b=>bM a b=true):∀ x ∈ ks.dropWhile (fun x=>bM x k),bM x k=false:=by
 induction ks with
 | nil=>intro x h;exact absurd h BO
 | cons a l ih=>
   have h1:=List.pairwise_cons.1 hs;intro x hx;rw [Cn] at hx
   split at hx
   ·exact ih h1.2 x hx
   ·rename_i ha
    have ha':bM a k=false:=by simpa using ha
    rcases List.mem_cons.1 hx with rfl | hx
    ·exact ha'
    ·cases h2:bM x k
     ·rfl
     ·have:=cS (h1.1 x hx) h2;rw [ha'] at this;cases this
theorem jt {ks:List By} {k:By} (hs:ks.Pairwise fun a b=>bM a b=true):(∀ x ∈ ks.take (cj ks k),bM x k=true)/\(∀ x ∈ ks.drop (cj ks k),bM x k=false)/\cj ks k<=ks.length:=by unfold cj;rw [sY,sZ];exact ⟨fun x hx=>yE (p:=fun x=>bM x k) hx,zl hs,(List.takeWhile_sublist _).length_le⟩
theorem fU {ks:List By} {k:By} (h:jT ks k=true):cj ks k<ks.length/\ks[cj ks k]?=some k/\ks.drop (cj ks k)=k :: ks.drop (cj ks k+1):=by
 have h1:ks[cj ks k]?=some k:=by simpa [jT] using h
 obtain ⟨hl,h2⟩:=List.getElem?_eq_some_iff.1 h1;refine ⟨hl,h1,?_⟩;rw [BF hl,h2]
theorem lr {ks:List By} {k:By} (hs:ks.Pairwise fun a b=>bM a b=true) (h:jT ks k=false):∀ x ∈ ks.drop (cj ks k),bM k x=true:=by
 intro x hx;have h1:=(jt (k:=k) hs).2.1;rcases hd:ks.drop (cj ks k) with _ | ⟨y,l⟩
 ·rw [hd] at hx;exact absurd hx BO
 ·have hy:ks[cj ks k]?=some y:=by have:=congrArg List.head? hd;rw [List.head?_drop] at this;simpa using this
  have hne:y≠k:=by rintro rfl;unfold jT at h;rw [hy] at h;simp at h
  have hyk:bM k y=true:=sm (h1 y (by rw [hd];simp)) hne;have hpw:(y :: l).Pairwise fun a b=>bM a b=true:=by rw [<- hd];exact hs.sublist (BL _ _)
  rw [hd] at hx;rcases List.mem_cons.1 hx with rfl | hx
  ·exact hyk
  ·exact cS hyk ((List.pairwise_cons.1 hpw).1 x hx)
theorem ws {n:Nd} {k:By} (hs:n.keys.Pairwise fun a b=>bM a b=true):(∀ x ∈ n.keys.take (cK n k),bM k x=false)/\(∀ x ∈ n.keys.drop (cK n k),bM k x=true)/\cK n k<=n.keys.length:=by
 obtain ⟨h1,h2,h3⟩:=jt (k:=k) hs;unfold cK;cases hi:jT n.keys k
 ·rw [if_neg (by simp)];exact ⟨fun x hx=>aL (h1 x hx),lr hs hi,h3⟩
 ·obtain ⟨i1,i2,i3⟩:=fU hi;rw [if_pos rfl];refine ⟨fun x hx=>?_,fun x hx=>?_,i1⟩
  ·rw [List.take_add_one,i2] at hx;rcases List.mem_append.1 hx with hx | hx
   ·exact aL (h1 x hx)
   ·rw [show x=k by simpa using hx];exact eG k
  ·have hpw:(k :: n.keys.drop (cj n.keys k+1)).Pairwise fun a b=>bM a b=true:=by rw [<- i3];exact hs.sublist (BL _ _)
   exact (List.pairwise_cons.1 hpw).1 x hx
def mP (ps:List Pr) (k:By):List Pr:=ps.filter fun p=>bM p.1 k
def lw (ps:List Pr) (k:By):List Pr:=ps.filter fun p=>bM k p.1
def putP (ps:List Pr) (k v:By):List Pr:=mP ps k ++ (k,v) :: lw ps k
def jO (ps:List Pr) (k:By):List Pr:=mP ps k ++ lw ps k
def kt (ps:List Pr) (k:By):Option By:=(ps.find? fun p=>p.1 == k).map (·.2)
theorem lV {ps:List Pr} {k:By} (h:∀ p ∈ ps,bM p.1 k=true):mP ps k=ps:=List.filter_eq_self.2 h
theorem ja {ps:List Pr} {k:By} (h:∀ p ∈ ps,bM p.1 k=false):mP ps k=[]:=List.filter_eq_nil_iff.2 fun p hp=>by rw [h p hp];simp
theorem jw {ps:List Pr} {k:By} (h:∀ p ∈ ps,bM k p.1=true):lw ps k=ps:=List.filter_eq_self.2 h
theorem je {ps:List Pr} {k:By} (h:∀ p ∈ ps,bM k p.1=false):lw ps k=[]:=List.filter_eq_nil_iff.2 fun p hp=>by rw [h p hp];simp
theorem kp (a b:List Pr) (k:By):mP (a ++ b) k=mP a k ++ mP b k:=Co ..
theorem jv (a b:List Pr) (k:By):lw (a ++ b) k=lw a k ++ lw b k:=Co ..
theorem vQ {a b c:List Pr} {k v:By} (h1:∀ p ∈ a,bM p.1 k=true) (h2:∀ p ∈ c,bM k p.1=true):putP (a ++ (b ++ c)) k v=a ++ (putP b k v ++ c):=by unfold putP;rw [kp,kp,jv,jv,lV h1,je (fun p hp=>aL (h1 p hp)),ja (fun p hp=>aL (h2 p hp)),jw h2];simp
theorem wQ {a b c:List Pr} {k:By} (h1:∀ p ∈ a,bM p.1 k=true) (h2:∀ p ∈ c,bM k p.1=true):jO (a ++ (b ++ c)) k=a ++ (jO b k ++ c):=by unfold jO;rw [kp,kp,jv,jv,lV h1,je (fun p hp=>aL (h1 p hp)),ja (fun p hp=>aL (h2 p hp)),jw h2];simp
theorem rf {a b c:List Pr} {k:By} (h1:∀ p ∈ a,p.1≠k) (h2:∀ p ∈ c,p.1≠k):kt (a ++ (b ++ c)) k=kt b k:=by unfold kt;have e2:c.find? (fun p=>p.1 == k)=none:=List.find?_eq_none.2 (fun p hp=>by simpa using h2 p hp);rw [Cp,Cp,List.find?_eq_none.2 (fun p hp=>by simpa using h1 p hp),e2];simp
theorem uL {ps:List Pr} {k:By} (h:∀ p ∈ ps,p.1≠k):kt ps k=none:=by unfold kt;rw [List.find?_eq_none.2 (fun p hp=>by simpa using h p hp)];rfl
theorem wL (k v:By):kt [(k,v)] k=some v:=by simp [kt]
theorem mQ {B:Int->By} {n:Nd} {lo:By} {hi:Option By} {ps:List Pr} {gs:List Int} (h:aU B 0 n lo hi ps gs) (k:By):
  ∃ g1 g2,gs=g1 ++ g2/\cY B (n.keys.take (cj n.keys k)) (n.cells.take (cj n.keys k)) (mP ps k) g1/\
    (jT n.keys k=false->kt ps k=none/\cY B (n.keys.drop (cj n.keys k)) (n.cells.drop (cj n.keys k)) (lw ps k) g2)/\
    (jT n.keys k=true->∃ v g3 g4,g2=g3 ++ g4/\kt ps k=some v/\Cel B (n.cells.getD (cj n.keys k) ⟨0,[],0⟩) v g3/\cY B (n.keys.drop (cj n.keys k+1)) (n.cells.drop (cj n.keys k+1)) (lw ps k) g4):=by
 obtain ⟨_,_,h3,_,h5⟩:=h;have hs:=(rises_pw.1 h3).2;obtain ⟨i1,i2,i3⟩:=jt (k:=k) hs;obtain ⟨p1,p2,g1,g2,rfl,rfl,e1,e2⟩:=iB (cj n.keys k) h5;have k1:=(bY e1).1;have k2:=(bY e2).1;have a1:∀ p ∈ p1,bM p.1 k=true:=fun p hp=>i1 _ (by rw [k1];exact BU hp)
 have a2:∀ p ∈ p2,bM p.1 k=false:=fun p hp=>i2 _ (by rw [k2];exact BU hp)
 refine ⟨g1,g2,rfl,?_,fun hi=>?_,fun hi=>?_⟩
 ·rw [kp,lV a1,ja a2,BW];exact e1
 ·have a3:∀ p ∈ p2,bM k p.1=true:=fun p hp=>lr hs hi _ (by rw [k2];exact BU hp)
  refine ⟨uL fun p hp=>?_,?_⟩
  ·rcases List.mem_append.1 hp with hp | hp
   ·exact ir (a1 p hp)
   ·exact (ir (a3 p hp)).symm
  ·rw [jv,je (fun p hp=>aL (a1 p hp)),jw a3,BQ];exact e2
 ·obtain ⟨j1,j2,j3⟩:=fU hi;have hcl:=(bY h5).2.1;have hc:n.cells.drop (cj n.keys k)=n.cells.getD (cj n.keys k) ⟨0,[],0⟩ :: n.cells.drop (cj n.keys k+1):=by rw [BF (by omega),BG,BH (by omega)];rfl
  rw [j3,hc] at e2;obtain ⟨v,g3,p3,g4,rfl,rfl,e3,e4⟩:=e2;have hpw:(k :: n.keys.drop (cj n.keys k+1)).Pairwise fun a b=>bM a b=true:=by rw [<- j3];exact hs.sublist (BL _ _)
  have a3:∀ p ∈ p3,bM k p.1=true:=fun p hp=>(List.pairwise_cons.1 hpw).1 _ (by rw [(bY e4).1];exact BU hp)
  refine ⟨v,g3,g4,rfl,?_,e3,?_⟩
  ·have:=rf (a:=p1) (b:=[(k,v)]) (c:=p3) (k:=k) (fun p hp=>ir (a1 p hp)) (fun p hp=>(ir (a3 p hp)).symm);rw [List.singleton_append] at this;rw [this,wL]
  ·rw [jv,je (fun p hp=>aL (a1 p hp)),BQ];unfold lw;rw [BX (by simp [eG])];rw [show List.filter (fun p:Pr=>bM k p.1) p3=p3 from jw a3];exact e4
theorem eq:∀ (a b:List By) (c e:List Ce),c.length=a.length->bC (a ++ b) (c ++ e)=bC a c ++ bC b e
 | [],_,[],_,_=>rfl
 | [],_,_ :: _,_,h=>by simp at h
 | _ :: _,_,[],_,h=>by simp at h
 | k :: a,b,x :: c,e,h=>by simp [bC,eq a b c e (by simpa using h)]
theorem ra:∀ (a b:List By) (c e:List Int),c.length=a.length->eX (a ++ b) (c ++ e)=eX a c ++ eX b e
 | [],_,[],_,_=>rfl
 | [],_,_ :: _,_,h=>by simp at h
 | _ :: _,_,[],_,h=>by simp at h
 | k :: a,b,x :: c,e,h=>by simp [eX,ra a b c e (by simpa using h)]
def bo (n:Nd):Nat:=if n.leaf then (bC n.keys n.cells).length else (n.keys.map fun k=>(gE k).length+4).sum
theorem qY:∀ (ks:List By) (ds:List Int),ds.length=ks.length->(eX ks ds).length=(ks.map fun k=>(gE k).length+4).sum
 | [],[],_=>rfl
 | [],_ :: _,h=>by simp at h
 | _ :: _,[],h=>by simp at h
 | k :: ks,d :: ds,h=>by simp [eX,qY ks ds (by simpa using h),aF];omega
theorem gg {n:Nd} (h:aD n=true):(aw n).length=bo n+if n.leaf then 3 else 7:=by
 unfold aw bo;cases hl:n.leaf
 ·obtain ⟨_,_,h2,_⟩:=aQ h hl;simp [aF,qY n.keys n.kids.tail (by rw [List.length_tail];omega)];omega
 ·simp [aF];omega
theorem dI {k:By} (h:k.length<=64):(gE k).length=k.length+1:=by unfold gE;rw [Bt,dC,if_pos (by omega)];omega
theorem nz {c:Ce} (h:aI c=true):(gR c).length<=42:=by
 unfold gR;rw [Bt,dC];by_cases h2:40<c.size
 ·rw [if_pos h2,aF];split <;> omega
 ·obtain ⟨h3,h4,_⟩:=fJ h h2;rw [if_neg h2,if_pos (by omega)];omega
def lN (n:Nd):List Nat:=if n.leaf then List.zipWith (fun k c=>(gE k).length+(gR c).length) n.keys n.cells else n.keys.map fun k=>(gE k).length+4
theorem oE:∀ (ks:List By) (cs:List Ce),(bC ks cs).length=(List.zipWith (fun k c=>(gE k).length+(gR c).length) ks cs).sum
 | [],_=>by simp [bC]
 | _ :: _,[]=>by simp [bC]
 | k :: ks,c :: cs=>by simp [bC,oE ks cs];omega
theorem kD (n:Nd):bo n=(lN n).sum:=by
 unfold bo lN;cases n.leaf
 ·rfl
 ·exact oE _ _
theorem ni {m:Nat} (es:List Nat):∀ i,i<=es.length->(es.drop i).sum<=m->∃ j,j<=i/\(es.drop j).sum<=m/\(j=0\/m<(es.drop (j - 1)).sum)
 | 0,_,h=>⟨0,Cm _,h,.inl rfl⟩
 | i+1,hi,h=>by
   by_cases h2:(es.drop i).sum<=m
   ·obtain ⟨j,h3,h4,h5⟩:=ni es i (by omega) h2;exact ⟨j,by omega,h4,h5⟩
   ·exact ⟨i+1,Cm _,h,.inr (by simp;omega)⟩
theorem gJ (es:List Nat) (i:Nat):(es.take i).sum+(es.drop i).sum=es.sum:=by rw [<- Cr,BD]
theorem lz (es:List Nat) {j:Nat} (h1:1<=j) (h2:j<=es.length):∃ e ∈ es,(es.drop (j - 1)).sum=e+(es.drop j).sum:=by refine ⟨es[j - 1]'(by omega),BT _,?_⟩;rw [BF (by omega),Cs,show j - 1+1=j by omega]
theorem uT (es:List Nat) (hM:∀ e ∈ es,e<=107) (h1:229<es.sum) (h2:es.sum<=352):∃ i,1<=i/\i<es.length/\(es.take i).sum<=229/\(es.drop i).sum<=229:=by
 obtain ⟨j,hj,h3,h4⟩:=ni (m:=229) es es.length (Cm _) (by simp);have hj0:j≠0:=by rintro rfl;simp at h3;omega
 have h4:229<(es.drop (j - 1)).sum:=h4.resolve_left hj0;obtain ⟨e,he,h5⟩:=lz es (j:=j) (by omega) hj;have:=hM e he;have h6:=gJ es j;refine ⟨j,by omega,?_,by omega,h3⟩;rcases BN j es.length with h | h
 ·exact h
 ·rw [BM (i:=j) (by omega)] at h5;simp at h5;omega
theorem uS (es:List Nat) (hM:∀ e ∈ es,e<=69) (h1:225<es.sum) (h2:es.sum<=450):∃ i,1<=i/\i+1<es.length/\(es.take i).sum<=225/\(es.drop (i+1)).sum<=225:=by
 obtain ⟨j,hj,h3,h4⟩:=ni (m:=225) es es.length (Cm _) (by simp);have hj0:j≠0:=by rintro rfl;simp at h3;omega
 have h4:225<(es.drop (j - 1)).sum:=h4.resolve_left hj0;obtain ⟨e,he,h5⟩:=lz es (j:=j) (by omega) hj;have:=hM e he;have hjl:j<es.length:=by
  rcases BN j es.length with h | h
  ·exact h
  ·rw [BM (i:=j) (by omega)] at h5;simp at h5;omega
 by_cases hj1:j=1
 ·subst hj1;simp at h4;obtain ⟨e2,he2,h7⟩:=lz es (j:=2) (by omega) (by omega);have:=hM e2 he2;simp only [Nat.reduceSub] at h7;have hl:2<es.length:=by
   rcases BN 2 es.length with h | h
   ·exact h
   ·rw [BM (i:=2) (by omega)] at h7;simp at h5 h7;omega
  have h6:=gJ es 1;simp only [Nat.reduceSub,List.drop_zero] at h5;exact ⟨1,by omega,by omega,by omega,by simp only [Nat.reduceAdd];omega⟩
 ·have h6:=gJ es (j - 1);exact ⟨j - 1,by omega,by omega,by omega,by rw [show j - 1+1=j by omega];exact h3⟩
theorem xZ {n:Nd} (h:aD n=true):∀ e ∈ lN n,e<=if n.leaf then 107 else 69:=by
 intro e he;unfold lN at he;cases hl:n.leaf
 ·rw [hl,if_neg (by simp)] at he;obtain ⟨k,hk,rfl⟩:=List.mem_map.1 he;have h1:=bQ (aQ h hl).1 k hk;rw [dI h1,if_neg (by simp)];omega
 ·rw [hl,if_pos rfl] at he;obtain ⟨hr,hc,_,hg⟩:=cD h hl;obtain ⟨i,hi,rfl⟩:=List.getElem_of_mem he;rw [List.getElem_zipWith];rw [List.length_zipWith] at hi;have h1:=bQ hr n.keys[i] (BT _);have h2:=nz (hg n.cells[i] (BT _));rw [dI h1,if_pos rfl];omega
theorem fg {a b:List By} (h:aH b=true) (hs:a.Sublist b):aH a=true:=by obtain ⟨h1,h2⟩:=rises_pw.1 h;exact rises_pw.2 ⟨fun k hk=>h1 k (hs.subset hk),h2.sublist hs⟩
theorem rp {n:Nd} (h:aD n=true) {i:Nat} (h1:1<=i) (h2:i<n.keys.length) (h3:n.leaf=false->i+1<n.keys.length):aD (aS n i).1=true/\aD (aS n i).2.2=true:=by
 unfold aS;cases hl:n.leaf
 ·obtain ⟨hr,h0,hd,_,h5,h6⟩:=aQ h hl;have h3:=h3 hl;rw [if_neg (by simp)];refine ⟨eS (fg hr (BS _ _)) ?_ ?_ (h5.sublist (BS _ _)) (fun d hd=>h6 d (BJ hd)),eS (fg hr (BL _ _)) ?_ ?_ (h5.sublist (BL _ _)) (fun d hd=>h6 d (BK hd))⟩
  ·intro e;have:=congrArg Cf e;rw [Bz,BR] at this;omega
  ·rw [Bz,Bz];omega
  ·intro e;have:=congrArg Cf e;rw [BP,BR] at this;omega
  ·rw [BP,BP];omega
 ·obtain ⟨hr,hc,_,hg⟩:=cD h hl;rw [if_pos rfl];refine ⟨gP (fg hr (BS _ _)) (by rw [Bz,Bz];omega) (fun c hc=>hg c (BJ hc)),gP (fg hr (BL _ _)) (by rw [BP,BP];omega) (fun c hc=>hg c (BK hc))⟩
theorem ff {n:Nd} (h:aD n=true):bf n=bo n+if n.leaf then 3 else 7:=by
 rw [<- gg h];unfold bf iP;rw [if_pos h,if_neg];cases hl:n.leaf
 ·have:=(aQ h hl).2.1;simpa using this
 ·simp
theorem rt (n:Nd) (i:Nat):bo (aS n i).1=((lN n).take i).sum/\bo (aS n i).2.2=((lN n).drop (if n.leaf then i else i+1)).sum:=by
 rw [kD,kD];unfold aS lN;cases n.leaf
 ·simp [List.map_take,List.map_drop]
 ·simp [List.take_zipWith,List.drop_zipWith]
theorem wN {n:Nd} (h:aD n=true):(lN n).length=n.keys.length:=by
 unfold lN;cases hl:n.leaf
 ·simp
 ·simp [(cD h hl).2.1]
theorem pa {n:Nd}:∀ (k i:Nat),1<=i->i<=k->ei (aS n i)=true->∃ x,bZ n k=some x
 | 0,i,h1,h2,_=>by omega
 | k+1,i,h1,h2,h3=>by
   unfold bZ;by_cases h:ei (aS n (k+1))=true
   ·rw [if_pos h];cases bZ n k with
    | none=>exact ⟨_,rfl⟩
    | some b=>
      simp only
      split
      ·exact ⟨_,rfl⟩
      ·exact ⟨_,rfl⟩
   ·rw [if_neg h];exact pa k i h1 (by rcases BN i (k+1) with h4 | h4;omega;exact absurd (by rw [show k+1=i by omega];exact h3) h) h3
theorem pV {n:Nd}:∀ (k:Nat) {x:Nd × By × Nd},bZ n k=some x->∃ j,1<=j/\j<=k/\x=aS n j/\ei x=true
 | 0,x,h=>by cases h
 | k+1,x,h=>by
   unfold bZ at h;by_cases hc:ei (aS n (k+1))=true
   ·rw [if_pos hc] at h;cases hb:bZ n k with
    | none=> rw [hb] at h;simp only [Option.some.injEq] at h;exact ⟨k+1,by omega,by omega,h.symm,by rw [<- h];exact hc⟩
    | some b=>
      rw [hb] at h;simp only at h
      split at h
      ·injection h with h
       exact ⟨k+1,by omega,by omega,h.symm,by rw [<- h];exact hc⟩
      ·injection h with h
       subst h;obtain ⟨j,j1,j2,j3⟩:=pV k hb;exact ⟨j,j1,by omega,j3⟩
   ·rw [if_neg hc] at h;obtain ⟨j,j1,j2,j3⟩:=pV k h;exact ⟨j,j1,by omega,j3⟩
theorem qG {n:Nd} (h:aD n=true) (hb:if n.leaf then 229<bo n/\bo n<=352 else 225<bo n/\bo n<=450):
  ∃ i,1<=i/\i<n.keys.length/\(n.leaf=false->i+1<n.keys.length)/\dk n=aS n i/\aD (aS n i).1=true/\aD (aS n i).2.2=true/\(aw (aS n i).1).length<=232/\(aw (aS n i).2.2).length<=232:=by
 have hle:=xZ h;have hlen:=wN h;have hleafcut:∀ i,(aS n i).1.leaf=n.leaf/\(aS n i).2.2.leaf=n.leaf:=fun i=>by unfold aS;cases n.leaf <;> exact ⟨rfl,rfl⟩
 have hex:∃ i,1<=i/\i<n.keys.length/\ei (aS n i)=true:=by
  rw [kD] at hb
  have key:∀ i,1<=i->i<n.keys.length->(n.leaf=false->i+1<n.keys.length)->bo (aS n i).1+(if n.leaf then 3 else 7)<=232->bo (aS n i).2.2+(if n.leaf then 3 else 7)<=232->ei (aS n i)=true:=fun i h1 h2 h3 h4 h5=>by
   obtain ⟨g1,g2⟩:=rp h h1 h2 h3;have t1:=ff g1;have t2:=ff g2;rw [(hleafcut i).1] at t1;rw [(hleafcut i).2] at t2;unfold ei bw;rw [t1,t2,decide_eq_true h4,decide_eq_true h5];cases n.leaf <;> simp
  cases hl:n.leaf
  ·rw [hl,if_neg (by simp)] at hb;obtain ⟨i,h1,h2,h3,h4⟩:=uS (lN n) (fun e he=>by have:=hle e he;rw [hl,if_neg (by simp)] at this;exact this) hb.1 hb.2;have:=rt n i;rw [hl,if_neg (by simp)] at this;refine ⟨i,h1,by omega,key i h1 (by omega) (fun _=>by omega) ?_ ?_⟩
   ·rw [this.1,hl,if_neg (by simp)];omega
   ·rw [this.2,hl,if_neg (by simp)];omega
  ·rw [hl,if_pos rfl] at hb;obtain ⟨i,h1,h2,h3,h4⟩:=uT (lN n) (fun e he=>by have:=hle e he;rw [hl,if_pos rfl] at this;exact this) hb.1 hb.2;have:=rt n i;rw [hl,if_pos rfl] at this;refine ⟨i,h1,by omega,key i h1 (by omega) (fun e=>by rw [hl] at e;cases e) ?_ ?_⟩
   ·rw [this.1,hl,if_pos rfl];omega
   ·rw [this.2,hl,if_pos rfl];omega
 obtain ⟨i,h1,h2,h3⟩:=hex;obtain ⟨x,hx⟩:=pa (n.keys.length - 1) i h1 (by omega) h3;obtain ⟨j,j1,j2,j3,j4⟩:=pV _ hx
 have hj3:n.leaf=false->j+1<n.keys.length:=fun hl=>by
  rw [j3] at j4;unfold ei at j4;simp only [Ca,decide_eq_true_eq] at j4;rcases BN (j+1) n.keys.length with h | h
  ·exact h
  ·have:(aS n j).2.2.keys=[]:=by unfold aS;rw [hl,if_neg (by simp)];exact BM h
   have h0:bf (aS n j).2.2=0:=by unfold bf;rw [if_pos];rw [(hleafcut j).2,hl,this];rfl
   exact absurd h0 j4.1.1.2
 obtain ⟨g1,g2⟩:=rp h j1 (by omega) hj3;refine ⟨j,j1,by omega,hj3,?_,g1,g2,?_,?_⟩
 ·unfold dk;rw [hx,j3];rfl
 ·rw [j3] at j4;unfold ei bw at j4;simp only [Ca,decide_eq_true_eq] at j4;rw [gg g1,<- ff g1];exact j4.1.2
 ·rw [j3] at j4;unfold ei bw at j4;simp only [Ca,decide_eq_true_eq] at j4;rw [gg g2,<- ff g2];exact j4.2
theorem qI {B:Int->By} {d:Nat} {n:Nd} {lo:By} {hi:Option By} {ps:List Pr} {gs:List Int} (h:aU B d n lo hi ps gs) {i:Nat} (h1:1<=i) (h2:i<n.keys.length):
  ∃ p1 p2 g1 g2,ps=p1 ++ p2/\gs=g1 ++ g2/\aU B d (aS n i).1 lo (some (aS n i).2.1) p1 g1/\aU B d (aS n i).2.2 (aS n i).2.1 hi p2 g2/\p1≠[]/\p2≠[]/\(aS n i).2.1.length<=64:=by
 obtain ⟨_,_,_,hr⟩:=dr B d h;obtain ⟨hr1,hr2⟩:=rises_pw.1 hr;have hk:n.keys.getD i []=n.keys[i]:=by rw [BG,BH h2];rfl
 have hpw:=(BD i n.keys ▸ hr2:(n.keys.take i ++ n.keys.drop i).Pairwise _);rw [BF h2] at hpw;have hpa:=List.pairwise_append.1 hpw;have hpb:=List.pairwise_cons.1 hpa.2.1;cases d with
 | zero=>
   obtain ⟨a1,a2,a3,a4,a5⟩:=h;obtain ⟨p1,p2,g1,g2,rfl,rfl,e1,e2⟩:=iB i a5;have hc:aS n i=(⟨true,n.keys.take i,n.cells.take i,[]⟩,n.keys[i],⟨true,n.keys.drop i,n.cells.drop i,[]⟩):=by unfold aS;rw [if_pos a1,hk]
   rw [hc]
   refine ⟨p1,p2,g1,g2,rfl,rfl,⟨rfl,rfl,fg a3 (BS _ _),fun k hk=>⟨(a4 k (BJ hk)).1,fun h e=>?_⟩,e1⟩,
    ⟨rfl,rfl,fg a3 (BL _ _),fun k hk=>⟨?_,(a4 k (BK hk)).2⟩,e2⟩,?_,?_,hr1 _ (BT _)⟩
   ·injection e with e
    subst e;exact hpa.2.2 k hk _ BI
   ·have hk:k ∈ n.keys.drop i:=hk;rw [BF h2] at hk;rcases List.mem_cons.1 hk with rfl | hk
    ·exact eG _
    ·exact aL (hpb.1 k hk)
   ·rintro rfl;have:=congrArg Cf (bY e1).1;simp at this;rcases this with h | h
    ·omega
    ·rw [h] at h2;simp at h2
   ·rintro rfl;have:=congrArg Cf (bY e2).1;simp at this;omega
 | succ d=>
   obtain ⟨a1,a2,a3,a4⟩:=node_succ.1 h;have hlen:=eQ a4;have hT:=gp B d;obtain ⟨lo',hi',p1,p2,p3,g1,g2,g3,e1,e2,e3,rfl,rfl⟩:=gz (i:=i) a4 (by omega);have hc:aS n i=(⟨false,n.keys.take i,[],n.kids.take (i+1)⟩,n.keys[i],⟨false,n.keys.drop (i+1),[],n.kids.drop (i+1)⟩):=by unfold aS;rw [if_neg (by rw [a1];simp),hk]
   rw [hc];rw [BF h2] at e3;obtain ⟨rfl,e3⟩:=e3;have hkid:n.kids.take (i+1)=n.kids.take i ++ [n.kids.getD i 0]:=by rw [BY (by omega),BG,BH (by omega)];rfl
   have hleft:=fZ (b:=[]) (e:=[]) (hi:=some n.keys[i]) (p3:=[]) (g3:=[]) e1 e2 ⟨rfl,rfl,rfl⟩;rw [BW,BW,BW,<- hkid] at hleft;refine ⟨p1 ++ p2,p3,g1 ++ g2,g3,by simp,by simp,node_succ.2 ⟨rfl,rfl,fun k hk=>a3 k (BJ hk),hleft⟩,node_succ.2 ⟨rfl,rfl,fun k hk=>a3 k (BK hk),e3⟩,?_,(fp hT e3).1,a3 _ (BT _)⟩;have:=hT.ne e2;simp [this]
theorem uw {B:Int->By} {d:Nat} {l r:Nd} {lo:By} {k:By} {hi:Option By} {p1 p2:List Pr} {g1 g2:List Int} (h1:aU B d l lo (some k) p1 g1) (h2:aU B d r k hi p2 g2)
  (hk:bM k lo=false) (hh:∀ h,hi=some h->bM h k=false) (hk64:k.length<=64):aU B d (bP l k r) lo hi (p1 ++ p2) (g1 ++ g2):=by
 cases d with
 | zero=>
   obtain ⟨a1,a2,a3,a4,a5⟩:=h1;obtain ⟨b1,b2,b3,b4,b5⟩:=h2;have hj:bP l k r=⟨true,l.keys ++ r.keys,l.cells ++ r.cells,[]⟩:=by unfold bP;rw [a1,a2,b2];simp
   rw [hj];refine ⟨rfl,rfl,?_,fun x hx=>?_,ib a5 b5⟩
   ·obtain ⟨r1,r2⟩:=rises_pw.1 a3;obtain ⟨s1,s2⟩:=rises_pw.1 b3;refine rises_pw.2 ⟨fun x hx=>(List.mem_append.1 hx).elim (r1 x) (s1 x),List.pairwise_append.2 ⟨r2,s2,fun a ha b hb=>?_⟩⟩;exact fi ((a4 a ha).2 k rfl) (b4 b hb).1
   ·rcases List.mem_append.1 hx with hx | hx
    ·exact ⟨(a4 x hx).1,fun h e=>fi ((a4 x hx).2 k rfl) (hh h e)⟩
    ·exact lu hk (b4 x hx)
 | succ d=>
   obtain ⟨a1,a2,a3,a4⟩:=node_succ.1 h1;obtain ⟨b1,b2,b3,b4⟩:=node_succ.1 h2;have hj:bP l k r=⟨false,l.keys ++ k :: r.keys,[],l.kids ++ r.kids⟩:=by unfold bP;rw [a1,a2,b2];simp
   rw [hj];refine node_succ.2 ⟨rfl,rfl,fun x hx=>?_,?_⟩
   ·rcases List.mem_append.1 hx with hx | hx
    ·exact a3 x hx
    ·rcases List.mem_cons.1 hx with rfl | hx
     ·exact hk64
     ·exact b3 x hx
   ·have hl:=eQ a4;obtain ⟨lo',hi',q1,q2,q3,r1,r2,r3,e1,e2,e3,rfl,rfl⟩:=gz (i:=l.keys.length) a4 (by omega);rw [List.drop_length,BM (by omega)] at e3;obtain ⟨rfl,rfl,rfl⟩:=e3;rw [List.take_length] at e1;have:=fZ e1 e2 (b:=k :: r.keys) (e:=r.kids) (hi:=hi) ⟨rfl,b4⟩;have hkd:l.kids=l.kids.take l.keys.length ++ [l.kids.getD l.keys.length 0]:=by rw [BG,BH (by omega),Cb,<- BY (by omega),List.take_of_length_le (by omega)]
    simp only;rw [hkd];simpa using this
theorem oJ {l r:Nd} (k:By) (hl:l.leaf=r.leaf) (hc:l.leaf=true->l.cells.length=l.keys.length) (hk:k.length<=64):bo (bP l k r)<=bo l+bo r+if l.leaf then 0 else 69:=by
 unfold bo bP;rw [<- hl];cases h:l.leaf
 ·simp only [Bool.false_eq_true,if_false,List.map_append,Cr,List.map_cons,List.map_nil,Cs,List.sum_nil];have:=dI hk;omega
 ·simp only [if_true,BW];rw [eq _ _ _ _ (hc h),Bt];omega
theorem dN {n:Nd} (h:aD n=true) (h2:(aw n).length<=232) {s:Sf} {U:List Int} (hs:Hp s U) {p:Int} (hp:p ∈ U):
  (aE p n).run s=(eN s p (aK (aw n)),.ok ())/\Hp (eN s p (aK (aw n))) U/\dO ((eN s p (aK (aw n))).B p)=some n:=by
 obtain ⟨h3,h4⟩:=hs.put hp (er (aw n)) (α:=Unit) .pure;refine ⟨?_,h4,?_⟩
 ·unfold aE;rw [if_neg (by rw [h];simp;omega),h3];rfl
 ·rw [qh];exact wV h h2
theorem gt {s:Sf} {U:List Int} (hs:Hp s U) {p:Int} (hp:p ∈ U) {n:Nd} (h:dO (s.B p)=some n):(bl p).run s=(s,.ok n):=by unfold bl;rw [hs.get hp,h];rfl
def capN (n:Nd):Nat:=if n.leaf then 229 else 225
theorem cU {n:Nd} (h:aD n=true):(aw n).length<=232↔bo n<=capN n:=by rw [gg h];unfold capN;cases n.leaf <;> simp <;> omega
theorem eB {n:Nd} (h:aD n=true):bw n=true↔bo n<=capN n:=by rw [<- cU h,gg h];unfold bw;rw [decide_eq_true_eq,ff h]
def fO (n:Nd):Nat:=if n.leaf then 352 else 450
theorem ro {n:Nd} (h1:capN n<bo n) (h2:bo n<=fO n):if n.leaf then 229<bo n/\bo n<=352 else 225<bo n/\bo n<=450:=by
 unfold capN at h1;unfold fO at h2
 split at h1
 ·rename_i h;rw [if_pos h] at h2 ⊢;exact ⟨h1,h2⟩
 ·rename_i h;rw [if_neg h] at h2 ⊢;exact ⟨h1,h2⟩
theorem qH {s:Sf} {d:Nat} {c:Nd} {lo:By} {hi:Option By} {pc:List Pr} {gc Y:List Int} {q:Int} (n:Nd) (i:Nat) (hq:n.kids.getD i 0=q) (hs:Hp s (q :: (gc ++ Y))) (hroom:(q :: (gc ++ Y)).length<4095)
  (hc:aU s.B d c lo hi pc gc) (hg:aD c=true) (h1:capN c<bo c) (h2:bo c<=fO c):
  ∃ s' r key p1 p2 g1 g2,(eh n i c).run s=(s',.ok { n with keys:=n.keys.insertIdx i key,kids:=n.kids.insertIdx (i+1) r })/\Hp s' (q :: g1 ++ (r :: g2 ++ Y))/\Kp Y s s'/\pc=p1 ++ p2/\gc=g1 ++ g2/\
    iD s'.B d q lo (some key) p1 (q :: g1)/\iD s'.B d r key hi p2 (r :: g2)/\key.length<=64:=by
 obtain ⟨j,j1,j2,_,j3,j4,j5,j6,j7⟩:=qG hg (ro h1 h2);obtain ⟨p1,p2,g1,g2,rfl,rfl,e1,e2,e3,e4,e5⟩:=qI hc j1 j2;obtain ⟨r,s1,n1,n2,n3,n4⟩:=hs.new hroom;have hqU:q ∈ r :: (q :: (g1 ++ g2 ++ Y)):=by simp
 have hrU:r ∈ r :: (q :: (g1 ++ g2 ++ Y)):=by simp
 obtain ⟨w1,w2,w3⟩:=dN j4 j6 n3 hqU;obtain ⟨v1,v2,v3⟩:=dN j5 j7 w2 hrU;have hnd:=n3.nd;have hrq:r≠q:=fun e=>n2 (by rw [e];simp)
 have hq1:q ∉ g1 ++ g2 ++ Y:=(List.nodup_cons.1 (List.nodup_cons.1 hnd).2).1;have hr1:r ∉ g1 ++ g2 ++ Y:=fun h=>n2 (BB _ h)
 have hk:Kp (g1 ++ g2 ++ Y) s (eN (eN s1 q (aK (aw (aS c j).1))) r (aK (aw (aS c j).2.2))):=
  ((n4.sub fun p hp=>BB _ hp).trans (gN hq1)).trans (gN hr1)
 refine ⟨_,r,(aS c j).2.1,p1,p2,g1,g2,?_,v2.perm ?_,hk.sub (fun p hp=>Bv _ hp),rfl,rfl,⟨e3,_,_,?_,rfl,bV d e1 fun p hp=>hk.b p (by simp [hp])⟩,⟨e4,_,_,v3,rfl,bV d e2 fun p hp=>hk.b p (by simp [hp])⟩,e5⟩
 ·unfold eh;rw [n1,hq,j3,ah w1,ah v1];rfl
 ·rw [Bx];intro a;simp only [BE,BA];omega
 ·rw [show (eN (eN s1 q (aK (aw (aS c j).1))) r (aK (aw (aS c j).2.2))).B q=(eN s1 q (aK (aw (aS c j).1))).B q from aZ _ _ hrq.symm];exact w3
theorem ku {α:Type} (a:List α) (x:α) (b:List α) (y:α):(a ++ x :: b).getD a.length y=x:=by simp
theorem uM {α:Type} (a:List α) (x z:α) (b:List α) (y:α):(a ++ x :: z :: b).getD (a.length+1) y=z:=by simp
theorem fB {α:Type} (a b:List α) (x:α):(a ++ b).insertIdx a.length x=a ++ x :: b:=by
 induction a with
 | nil=>rfl
 | cons y a ih=>simp [ih]
theorem mW {α:Type} (a b:List α) (x y:α):(a ++ y :: b).insertIdx (a.length+1) x=a ++ y :: x :: b:=by have:=fB (a ++ [y]) b x;simpa using this
theorem kx {α:Type} (a b:List α) (x:α):(a ++ x :: b).eraseIdx a.length=a ++ b:=by
 induction a with
 | nil=>rfl
 | cons y a ih=>simp [ih]
theorem nQ {α:Type} (a b:List α) (x y:α):(a ++ y :: x :: b).eraseIdx (a.length+1)=a ++ y :: b:=by have:=kx (a ++ [y]) b x;simpa using this
theorem td {α:Type} (a b:List α) (x z:α):(a ++ x :: b).set a.length z=a ++ z :: b:=by
 induction a with
 | nil=>rfl
 | cons y a ih=>simp [ih]
def eA (ks:List By):Nat:=(ks.map fun k=>(gE k).length+4).sum
theorem fv (a b:List By):eA (a ++ b)=eA a+eA b:=by simp [eA]
theorem fq (k:By) (b:List By):eA (k :: b)=(gE k).length+4+eA b:=by simp [eA]
structure Parent (B:Int->By) (d:Nat) (a b:List By) (c e:List Int) (lo lo':By) (hi hi':Option By) (p1 p3:List Pr) (g1 g3:List Int):Prop where
 pre:nU (iD B d) lo a c lo' p1 g1
 suf:nM (iD B d) hi' b hi e p3 g3
 la:∀ k ∈ a,k.length<=64
 lb:∀ k ∈ b,k.length<=64
theorem Parent.congr {B B':Int->By} {d:Nat} {a b:List By} {c e:List Int} {lo lo':By} {hi hi':Option By} {p1 p3:List Pr} {g1 g3:List Int} (h:Parent B d a b c e lo lo' hi hi' p1 p3 g1 g3)
  (hb:∀ q ∈ g1 ++ g3,B' q=B q):Parent B' d a b c e lo lo' hi hi' p1 p3 g1 g3:=
 ⟨qC (fun _ _ _ _ _ hg hs=>js hs fun q hq=>hb q (BC _ (hg q hq))) h.pre,vD (fun _ _ _ _ _ hg hs=>js hs fun q hq=>hb q (Bv _ (hg q hq))) h.suf,h.la,h.lb⟩
theorem Parent.one {B:Int->By} {d:Nat} {a b:List By} {c e:List Int} {lo lo':By} {hi hi':Option By} {p1 p3:List Pr} {g1 g3:List Int} (h:Parent B d a b c e lo lo' hi hi' p1 p3 g1 g3)
  {q:Int} {p:List Pr} {g:List Int} (hk:iD B d q lo' hi' p g):aU B (d+1) ⟨false,a ++ b,[],c ++ q :: e⟩ lo hi (p1 ++ (p ++ p3)) (g1 ++ (g ++ g3)):=
 node_succ.2 ⟨rfl,rfl,fun k hk=>(List.mem_append.1 hk).elim (h.la k) (h.lb k),fZ h.pre hk h.suf⟩
theorem Parent.two {B:Int->By} {d:Nat} {a b:List By} {c e:List Int} {lo lo':By} {hi hi':Option By} {p1 p3:List Pr} {g1 g3:List Int} (h:Parent B d a b c e lo lo' hi hi' p1 p3 g1 g3)
  {q r:Int} {key:By} {p p':List Pr} {g g':List Int} (hk:iD B d q lo' (some key) p g) (hk2:iD B d r key hi' p' g') (hl:key.length<=64):
  aU B (d+1) ⟨false,a ++ key :: b,[],c ++ q :: r :: e⟩ lo hi (p1 ++ (p ++ (p' ++ p3))) (g1 ++ (g ++ (g' ++ g3))):=
 node_succ.2 ⟨rfl,rfl,fun k hk=>(List.mem_append.1 hk).elim (h.la k) fun hk=>(List.mem_cons.1 hk).elim (fun e=>e ▸ hl) (h.lb k),fZ h.pre hk (vF hk2 h.suf)⟩
theorem qL {s:Sf} {d:Nat} {a b:List By} {c e:List Int} {lo lo':By} {hi hi':Option By} {p1 p3 pl pr:List Pr} {g1 g3 gl gr X:List Int} (hp:Parent s.B d a b c e lo lo' hi hi' p1 p3 g1 g3)
  {l r:Nd} {ql qr:Int} {key:By} (hl:aU s.B d l lo' (some key) pl gl) (hr:aU s.B d r key hi' pr gr) (h64:key.length<=64) (hk1:bM key lo'=false) (hk2:∀ h,hi'=some h->bM h key=false)
  (hs:Hp s ((g1 ++ ((ql :: gl) ++ ((qr :: gr) ++ g3))) ++ X)) (hne:pl ++ pr≠[]) (hb:bo (bP l key r)<=fO l):
  ∃ s' n' gs',(dh ⟨false,a ++ key :: b,[],c ++ ql :: qr :: e⟩ a.length l r).run s=(s',.ok n')/\aU s'.B (d+1) n' lo hi (p1 ++ ((pl ++ pr) ++ p3)) gs'/\Hp s' (gs' ++ X)/\Kp X s s'/\
    gs'.length<=(g1 ++ ((ql :: gl) ++ ((qr :: gr) ++ g3))).length/\eA n'.keys<=eA (a ++ key :: b)+64/\n'.leaf=false:=by
 have hca:=pF hp.pre;have hj:=uw hl hr hk1 hk2 h64;have hleaf:(bP l key r).leaf=l.leaf:=rfl;have hsP:Hp s (ql :: (qr :: ((gl ++ gr) ++ ((g1 ++ g3) ++ X)))):=hs.perm (by
  rw [Bx];intro a;simp only [BE,BA];omega)
 have hnd:=hsP.nd;have hq1:=(List.nodup_cons.1 hnd).1;have hq2:=(List.nodup_cons.1 (List.nodup_cons.1 hnd).2).1;have hne12:ql≠qr:=fun e=>hq1 (by rw [e];simp)
 have hgood:aD (bP l key r)=true:=by
  refine fY hj ?_ (fun q hq=>hsP.pg (BB _ (BB _ (BC _ hq)))) fun hd=>?_
  ·refine (List.nodup_cons.1 (List.nodup_cons.1 hnd).2).2.sublist (BV _ _)
  ·cases d with
   | zero=>exact absurd rfl hd
   | succ d=> have:=(node_succ.1 hl).1;unfold bP;rw [this];simp
 unfold dh;simp only;rw [ku,<- hca,ku,uM,nQ,hca,kx,td];cases hf:bw (bP l key r)
 ·have hbig:capN (bP l key r)<bo (bP l key r):=by
   rcases BN (capN (bP l key r)) (bo (bP l key r)) with h | h
   ·exact h
   ·rw [(eB hgood).2 h] at hf;cases hf
  obtain ⟨j,j1,j2,_,j3,j4,j5,j6,j7⟩:=qG hgood (ro hbig hb);obtain ⟨q1,q2,r1,r2,hpe,hge,e1,e2,e3,e4,e5⟩:=qI hj j1 j2;rw [if_neg (by simp),j3];obtain ⟨w1,w2,w3⟩:=dN j4 j6 hsP (p:=ql) (by simp);obtain ⟨v1,v2,v3⟩:=dN j5 j7 w2 (p:=qr) (by simp);rw [ah w1,ah v1];have hk:Kp ((gl ++ gr) ++ ((g1 ++ g3) ++ X)) s (eN (eN s ql (aK (aw (aS (bP l key r) j).1))) qr (aK (aw (aS (bP l key r) j).2.2))):=
   (gN (fun h=>hq1 (BB _ h))).trans (gN hq2)
  have hpar:=hp.congr (B':=(eN (eN s ql (aK (aw (aS (bP l key r) j).1))) qr (aK (aw (aS (bP l key r) j).2.2))).B) (fun q hq=>hk.b q (Bv _ (BC _ hq)));have hN:=hpar.two (q:=ql) (r:=qr) (key:=(aS (bP l key r) j).2.1) (p:=q1) (p':=q2) (g:=ql :: r1) (g':=qr :: r2)
   ⟨e3,_,_,by rw [show (eN (eN s ql (aK (aw (aS (bP l key r) j).1))) qr (aK (aw (aS (bP l key r) j).2.2))).B ql=(eN s ql (aK (aw (aS (bP l key r) j).1))).B ql from aZ _ _ hne12];exact w3,rfl,bV d e1 fun p hp=>hk.b p (BC _ (by rw [hge];simp [hp]))⟩
   ⟨e4,_,_,v3,rfl,bV d e2 fun p hp=>hk.b p (BC _ (by rw [hge];simp [hp]))⟩ e5
  refine ⟨_,_,g1 ++ ((ql :: r1) ++ ((qr :: r2) ++ g3)),rfl,?_,v2.perm ?_,hk.sub (fun p hp=>Bv _ (Bv _ hp)),?_,?_,rfl⟩
  ·rw [hpe];have e6:p1 ++ (q1 ++ q2 ++ p3)=p1 ++ (q1 ++ (q2 ++ p3)):=by simp
   rw [e6];exact hN
  ·rw [hge,Bx];intro a;simp only [BE,BA];omega
  ·have:=congrArg Cf hge;simp only [Bt,Bw] at *;omega
  ·rw [fv,fv,fq,fq,dI e5,dI h64];omega
 ·rw [if_pos rfl];have hcap:=(eB hgood).1 hf;obtain ⟨w1,w2,w3⟩:=dN hgood ((cU hgood).2 hcap) hsP (p:=ql) (by simp);rw [ah w1];have w2':Hp (eN s ql (aK (aw (bP l key r)))) (qr :: (ql :: ((gl ++ gr) ++ ((g1 ++ g3) ++ X)))):=w2.perm (List.Perm.swap _ _ _);obtain ⟨s',f1,f2,f3⟩:=w2'.free;rw [f1];have hk:Kp ((gl ++ gr) ++ ((g1 ++ g3) ++ X)) s s':=(gN (fun h=>hq1 (BB _ h))).trans (f3.sub fun p hp=>BB _ hp);have hpar:=hp.congr (B':=s'.B) (fun q hq=>hk.b q (Bv _ (BC _ hq)));have hN:=hpar.one (q:=ql) (p:=pl ++ pr) (g:=ql :: (gl ++ gr)) ⟨hne,_,_,by rw [f3.b ql (by simp)];exact w3,rfl,bV d hj fun p hp=>hk.b p (BC _ hp)⟩;refine ⟨_,_,_,rfl,hN,f2.perm ?_,hk.sub (fun p hp=>Bv _ (Bv _ hp)),?_,?_,rfl⟩
  ·rw [Bx];intro a;simp only [BE,BA];omega
  ·simp only [Bt,Bw];omega
  ·rw [fv,fv,fq];omega
theorem eK {B:Int->By} {d:Nat} {n:Nd} {lo:By} {hi:Option By} {ps:List Pr} {gs:List Int} (h:aU B d n lo hi ps gs):n.leaf=decide (d=0):=by
 cases d with
 | zero=>rw [h.1];rfl
 | succ d=>rw [(node_succ.1 h).1];rfl
theorem pI {B:Int->By} {d:Nat} {n:Nd} {lo:By} {hi:Option By} {ps:List Pr} {gs:List Int} (h:aU B d n lo hi ps gs) (hk:d=0->n.keys≠[]):ps≠[]:=by
 cases d with
 | zero=> have:=(bY h.2.2.2.2).1;rintro rfl;exact hk rfl this
 | succ d=>exact (fp (gp B d) (node_succ.1 h).2.2.2).1
theorem iw {n:Nd} (h:n.leaf=false):bo n=eA n.keys:=by unfold bo;rw [h];rfl
theorem mR {B:Int->By} {d:Nat} {n:Nd} {lo:By} {hi:Option By} {ps:List Pr} {gs:List Int} (h:aU B d n lo hi ps gs):n.leaf=true->n.cells.length=n.keys.length:=fun hl=>by
 cases d with
 | zero=>exact (bY h.2.2.2.2).2.1
 | succ d=>rw [(node_succ.1 h).1] at hl;cases hl
theorem rR {s:Sf} {d:Nat} {a b:List By} {c e:List Int} {lo lo':By} {hi hi':Option By} {p1 p3 pc:List Pr} {g1 g3 gc X:List Int} (hp:Parent s.B d a b c e lo lo' hi hi' p1 p3 g1 g3)
  {m:Nd} {q:Int} (hm:aU s.B d m lo' hi' pc gc) (hs:Hp s ((g1 ++ ((q :: gc) ++ g3)) ++ X)) (hab:a ++ b≠[]) (hlh:∀ h,hi'=some h->bM lo' h=true)
  (hroom:((g1 ++ ((q :: gc) ++ g3)) ++ X).length<4095) (hcut:bo m<=fO m):
  ∃ s' n' gs',(bg ⟨false,a ++ b,[],c ++ q :: e⟩ a.length m).run s=(s',.ok n')/\aU s'.B (d+1) n' lo hi (p1 ++ (pc ++ p3)) gs'/\Hp s' (gs' ++ X)/\Kp X s s'/\
    gs'.length<=(g1 ++ ((q :: gc) ++ g3)).length+1/\eA n'.keys<=eA (a ++ b)+69/\n'.leaf=false:=by
 have hca:=pF hp.pre;have hbe:=xw hp.suf;have hT:=gp s.B d;have hml:=eK hm;have hsP:Hp s (q :: (gc ++ ((g1 ++ g3) ++ X))):=hs.perm (by
  rw [Bx];intro a;simp only [BE,BA];omega)
 have hq:(c ++ q :: e).getD a.length 0=q:=by rw [<- hca];exact ku _ _ _ _
 have hgood:(d≠0->m.keys≠[])->aD m=true:=fun hk=>fY hm ((List.nodup_cons.1 hsP.nd).2.sublist (BV _ _)) (fun x hx=>hsP.pg (BB _ (BC _ hx))) hk
 have htz:∀ hk:(d≠0->m.keys≠[]),bf m=bo m+if m.leaf then 3 else 7:=fun hk=>ff (hgood hk)
 unfold bg;by_cases hg:gO m=true
 ·
  rw [if_pos hg]
  have hk:d≠0->m.keys≠[]:=fun hd hk=>by
   unfold gO bw bf at hg;rw [hml,decide_eq_false hd,hk] at hg;simp at hg
  have hgd:=hgood hk;have hbig:capN m<bo m:=by
   rcases BN (capN m) (bo m) with h | h
   ·exact h
   ·unfold gO at hg;rw [(eB hgd).2 h] at hg;simp at hg
  obtain ⟨s',r,key,q1,q2,r1,r2,w1,w2,w3,rfl,rfl,w6,w7,w8⟩:=qH ⟨false,a ++ b,[],c ++ q :: e⟩ a.length hq hsP (by simp only [Bt,Bw] at *;omega) hm hgd hbig hcut;have hpar:=hp.congr (B':=s'.B) (fun x hx=>w3.b x (BC _ hx));have hN:=hpar.two w6 w7 w8;simp only [fB] at w1;rw [<- hca,mW] at w1;rw [<- hca];refine ⟨s',_,_,w1,by simpa using hN,w2.perm ?_,w3.sub (fun p hp=>Bv _ hp),?_,?_,rfl⟩
  ·rw [Bx];intro a;simp only [BE,BA];omega
  ·simp only [Bt,Bw];omega
  ·rw [fv,fv,fq,dI w8];omega
 ·rw [if_neg hg];by_cases hw:77<=bf m
  ·
   rw [if_pos hw]
   have hk:d≠0->m.keys≠[]:=fun hd hk=>by
    unfold bf at hw;rw [hml,decide_eq_false hd,hk] at hw;simp at hw
   have hgd:=hgood hk
   have hk0:m.keys≠[]:=fun e=>by
    by_cases hd:d=0
    ·have h1:=htz hk;rw [kD] at h1;unfold lN at h1;rw [hml,decide_eq_true hd,e] at h1;simp at h1;omega
    ·exact hk hd e
   have hfit:bw m=true:=by
    unfold gO at hg;rw [hml] at hg;by_cases hd:d=0
    ·have h0:m.keys.isEmpty=false:=by simpa using hk0
     simp [hd,h0] at hg;exact hg
    ·simpa [hd] using hg
   obtain ⟨w1,w2,w3⟩:=dN hgd ((cU hgd).2 ((eB hgd).1 hfit)) hsP (p:=q) BI;have hkp:Kp (gc ++ ((g1 ++ g3) ++ X)) s (eN s q (aK (aw m))):=gN (List.nodup_cons.1 hsP.nd).1;have hpar:=hp.congr (B':=(eN s q (aK (aw m))).B) (fun x hx=>hkp.b x (Bv _ (BC _ hx)));have hN:=hpar.one (q:=q) (p:=pc) (g:=q :: gc) ⟨pI hm (fun _=>hk0),m,gc,w3,rfl,bV d hm fun x hx=>hkp.b x (BC _ hx)⟩;refine ⟨_,_,_,?_,hN,w2.perm ?_,hkp.sub (fun p hp=>Bv _ (Bv _ hp)),?_,?_,rfl⟩
   ·rw [hq,ah w1];rfl
   ·rw [Bx];intro a;simp only [BE,BA];omega
   ·simp only [Bt,Bw];omega
   ·simp only;omega
  ·rw [if_neg hw];have hlight:bo m<=if m.leaf then 73 else 69:=by
    by_cases hk:d≠0->m.keys≠[]
    ·have:=htz hk;cases hl:m.leaf <;> simp [hl] at this ⊢ <;> omega
    ·have hd:d≠0:=fun e=>hk fun h=>absurd e h
     have hkk:m.keys=[]:=Classical.byContradiction fun h=>hk fun _=>h
     have hl:m.leaf=false:=by rw [hml];exact decide_eq_false hd
     rw [iw hl,hkk,hl];simp [eA]
   rcases Cj a with ha | ⟨a',key,ha⟩
   ·
    subst ha;have hc0:c=[]:=List.length_eq_zero_iff.1 hca;subst hc0;cases b with
    | nil=>exact absurd rfl hab
    | cons key b=>
      cases e with
      | nil=>simp at hbe
      | cons qr e=>
        obtain ⟨h2,pr,p3',gr,g3',rfl,rfl,rfl,hr,hsuf⟩:=rO hp.suf;obtain ⟨rfl,rfl,rfl⟩:=hp.pre;obtain ⟨hrne,r,gr',hrd,rfl,hrN⟩:=hr;have hrb:=eu hrd;have hrl:r.leaf=m.leaf:=by rw [hml,eK hrN]
        have h64:=hp.lb key BI;simp only [BQ,BR,Nat.lt_irrefl,if_false];rw [show (q :: qr :: e).getD 1 0=qr from rfl];rw [ah (gt hs (by simp) hrd),if_pos hrl];have hlk:=hlh key rfl;have hrf:=dr s.B d hrN
        have hkh:∀ h,h2=some h->bM h key=false:=fun h hh=>by
         cases pr with
         | nil=>exact absurd rfl hrne
         | cons x xs=> have:=hrf.1 x BI;exact aL (fj this.1 (this.2 h hh))
        have hjb:=oJ key hrl.symm (mR hm) h64;have hrb2:=(cU hrb.1).1 hrb.2.1;obtain ⟨s',n',gs',w1,w2,w3,w4,w5,w6,w7⟩:=qL (a:=[]) (c:=[]) (b:=b) (e:=e) (lo:=lo') (p1:=[]) (g1:=[]) (X:=X)
         ⟨⟨rfl,rfl,rfl⟩,hsuf,fun _ h=>absurd h BO,fun k hk=>hp.lb k (BB _ hk)⟩ hm hrN h64 (aL hlk) hkh hs (by simp [hrne])
         (by unfold fO;unfold capN at hrb2;rw [hrl] at hrb2;cases hl:m.leaf <;> simp [hl] at hjb hrb2 hlight ⊢ <;> omega)
        exact ⟨s',n',gs',w1,by simpa using w2,w3,w4,by simp only [Bt,Bw,BR] at w5 ⊢;omega,by simp only [BQ] at w6 ⊢;omega,w7⟩
   ·
    rw [Ck] at ha;subst ha;rcases Cj c with hc | ⟨c',ql,hc⟩
    ·subst hc;simp at hca
    ·rw [Ck] at hc;subst hc;have hca':c'.length=a'.length:=by simpa using hca
     obtain ⟨l',q1,pl,r1,gl,rfl,rfl,rfl,hpre,hl⟩:=mJ hca' hp.pre;obtain ⟨hlne,l,gl',hld,rfl,hlN⟩:=hl;have hlb:=eu hld;have hll:l.leaf=m.leaf:=by rw [hml,eK hlN]
     have h64:=hp.la lo' (by simp);have hlf:=dr s.B d hlN;have hkl:bM lo' l'=false:=by
      cases pl with
      | nil=>exact absurd rfl hlne
      | cons x xs=> have:=hlf.1 x BI;exact aL (fj this.1 (this.2 _ rfl))
     have hjb:=oJ lo' hll (mR hlN) h64;have hlb2:=(cU hlb.1).1 hlb.2.1;rw [if_pos (by simp)];have e1:(c' ++ [ql] ++ q :: e).getD ((a' ++ [lo']).length - 1) 0=ql:=by rw [Bt,List.length_singleton,Nat.add_sub_cancel,<- hca',Cg];exact ku _ _ _ _
     have hqlU:ql ∈ r1 ++ ql :: gl' ++ (q :: gc ++ g3) ++ X:=by simp
     simp only;rw [e1,ah (gt hs hqlU hld),if_pos hll];obtain ⟨s',n',gs',w1,w2,w3,w4,w5,w6,w7⟩:=qL (a:=a') (c:=c') (b:=b) (e:=e) (X:=X)
      ⟨hpre,hp.suf,fun k hk=>hp.la k (BC _ hk),hp.lb⟩ hlN hm h64 hkl (fun h hh=>aL (hlh h hh)) (ql:=ql) (qr:=q) (by simpa using hs) (by simp [hlne])
      (by unfold fO;unfold capN at hlb2;rw [hll] at hlb2 hjb ⊢;cases hl:m.leaf <;> simp [hl] at hjb hlb2 hlight ⊢ <;> omega)
     have e2:(⟨false,a' ++ [lo'] ++ b,[],c' ++ [ql] ++ q :: e⟩:Nd)=⟨false,a' ++ lo' :: b,[],c' ++ ql :: q :: e⟩:=by simp
     refine ⟨s',n',gs',?_,by simpa using w2,w3,w4,?_,?_,w7⟩
     ·rw [e2,show (a' ++ [lo']).length - 1=a'.length by simp];exact w1
     ·simp only [Bt,Bw] at *;omega
     ·rw [show a' ++ [lo'] ++ b=a' ++ lo' :: b by simp];omega
structure LeafAct (act:Nd->Pro (Option Nd)) (k:By) (f:List Pr->List Pr) (did:List Pr->Bool):Prop where
 mid:∀ {a b c:List Pr},(∀ p ∈ a,bM p.1 k=true)->(∀ p ∈ c,bM k p.1=true)->f (a ++ (b ++ c))=a ++ (f b ++ c)/\did (a ++ (b ++ c))=did b
 run:∀ {s:Sf} {n:Nd} {lo:By} {hi:Option By} {ps:List Pr} {gs X:List Int},aU s.B 0 n lo hi ps gs->wD lo hi k->Hp s (gs ++ X)->(gs ++ X).length+23<=4095->bo n<=229->
  (did ps=false/\(act n).run s=(s,.ok none))\/
  (did ps=true/\∃ s' n' gs',(act n).run s=(s',.ok (some n'))/\aU s'.B 0 n' lo hi (f ps) gs'/\Hp s' (gs' ++ X)/\Kp X s s'/\gs'.length<=gs.length+23/\bo n'<=336)
def kX (d:Nat):Nat:=if d=0 then 336 else 294
theorem ph {act:Nd->Pro (Option Nd)} {k:By} {f:List Pr->List Pr} {did:List Pr->Bool} (ha:LeafAct act k f did):∀ (d:Nat) (fu:Nat) {s:Sf} {q:Int} {n:Nd} {lo:By} {hi:Option By} {ps:List Pr} {gs X:List Int},
  d<=fu->dO (s.B q)=some n->aU s.B d n lo hi ps gs->wD lo hi k->Hp s ((q :: gs) ++ X)->((q :: gs) ++ X).length+23+d<=4094->
  (did ps=false/\(aY act k fu q).run s=(s,.ok none))\/
  (did ps=true/\∃ s' n' gs',(aY act k fu q).run s=(s',.ok (some n'))/\aU s'.B d n' lo hi (f ps) gs'/\Hp s' ((q :: gs') ++ X)/\Kp X s s'/\gs'.length<=gs.length+23+d/\bo n'<=kX d)
 | 0,fu,s,q,n,lo,hi,ps,gs,X,_,hd,hn,hb,hs,hr=>by
   have hg:=eu hd;have hcap:=(cU hg.1).1 hg.2.1;unfold capN at hcap;rw [if_pos hn.1] at hcap;have hs':Hp s (gs ++ (q :: X)):=hs.perm (by rw [Bx];intro a;simp only [BE,BA];omega);have hrd:=gt hs (p:=q) (by simp) hd;have hrun:(aY act k fu q).run s=(act n).run s:=by unfold aY;rw [ah hrd,if_pos hn.1]
   rw [hrun];rcases ha.run hn hb hs' (by simp only [Bt,Bw] at *;omega) hcap with ⟨h1,h2⟩ | ⟨h1,s',n',gs',h2,h3,h4,h5,h6,h7⟩
   ·exact .inl ⟨h1,h2⟩
   ·refine .inr ⟨h1,s',n',gs',h2,h3,h4.perm ?_,h5.sub (fun p hp=>BB _ hp),by omega,h7⟩;rw [Bx];intro a;simp only [BE,BA];omega
 | d+1,fu,s,q,n,lo,hi,ps,gs,X,hf,hd,hn,hb,hs,hr=>by
   obtain ⟨fu,rfl⟩:∃ g,fu=g+1:=⟨fu - 1,by omega⟩;have hg:=eu hd;have hcap:=(cU hg.1).1 hg.2.1;obtain ⟨nl,nk,nc,nd⟩:=n;obtain ⟨h1,h2,h3,h4⟩:=node_succ.1 hn;simp only at h1 h2 h3 h4;subst h1 h2;unfold capN at hcap;rw [if_neg (by simp),iw rfl] at hcap;simp only at hcap;obtain ⟨_,hk0,hkl,_,_,_⟩:=aQ hg.1 rfl;simp only at hk0 hkl;have hT:=gp s.B d;have hr0:=(dr s.B (d+1) hn).2.2.2;have hpw:=(rises_pw.1 hr0).2;obtain ⟨k1,k2,k3⟩:=ws (n:=⟨false,nk,[],nd⟩) (k:=k) hpw;simp only at k1 k2 k3;obtain ⟨i,hi0⟩:∃ i,cK ⟨false,nk,[],nd⟩ k=i:=⟨_,rfl⟩;rw [hi0] at k1 k2 k3;obtain ⟨lo',hi',p1,p2,p3,g1,g2,g3,e1,e2,e3,rfl,rfl⟩:=gz (i:=i) h4 (by omega);have f1:=qD hT e1;have f3:=vE hT e3;have hlo':bM k lo'=false:=by
    rcases f1.2.2 with h | h
    ·rw [h];exact hb.1
    ·exact k1 _ h
   have hhi':∀ h,hi'=some h->bM k h=true:=by
    intro h e;rcases f3.2.2 with h5 | ⟨x,h5,h6⟩
    ·exact hb.2 h (h5 ▸ e)
    ·rw [h6] at e;injection e with e
     exact e ▸ k2 x h5
   have hx1:∀ p ∈ p1,bM p.1 k=true:=fun p hp=>fi ((f1.1 p hp).2 lo' rfl) hlo'
   have hx3:∀ p ∈ p3,bM k p.1=true:=fun p hp=>by
    obtain ⟨h,e,h5⟩:=f3.1 p hp;exact fi (hhi' h e) h5
   obtain ⟨hm1,hm2⟩:=ha.mid (b:=p2) hx1 hx3;obtain ⟨e20,m,g2',hmd,rfl,hmN⟩:=e2;have hlh:∀ h,hi'=some h->bM lo' h=true:=fun h e=>fj hlo' (hhi' h e)
   obtain ⟨qk,hqk⟩:∃ qk,nd.getD i 0=qk:=⟨_,rfl⟩;rw [hqk] at hmd hs hr;have hkids:nd=nd.take i ++ qk :: nd.drop (i+1):=by rw [<- hqk,BG,BH (by omega),Cb,<- BF (by omega),BD]
   have hs':Hp s ((qk :: g2') ++ (q :: (g1 ++ g3) ++ X)):=hs.perm (by rw [Bx];intro a;simp only [BE,BA];omega)
   have hrun:(aY act k (fu+1) q).run s=((aY act k fu qk).bind fun o=>match o with
     | none=>.pure none
     | some c=>(bg ⟨false,nk,[],nd⟩ i c).bind fun n'=>.pure (some n')).run s:=by
    conv=>lhs;unfold aY
    rw [ah (gt hs (p:=q) (by simp) hd),if_neg (by simp)];simp only;rw [hi0,hqk];rfl
   rw [hrun,hm1,hm2];rcases ph ha d fu (by omega) hmd hmN ⟨hlo',hhi'⟩ hs' (by simp only [Bt,Bw] at *;omega) with ⟨w1,w2⟩ | ⟨w1,s1,c,gc,w2,w3,w4,w5,w6,w7⟩
   ·exact .inl ⟨w1,by rw [ah w2];rfl⟩
   ·have hpar:Parent s.B d (nk.take i) (nk.drop i) (nd.take i) (nd.drop (i+1)) lo lo' hi hi' p1 p3 g1 g3:=⟨e1,e3,fun x hx=>h3 x (BJ hx),fun x hx=>h3 x (BK hx)⟩;have hpar1:=hpar.congr (B':=s1.B) (fun x hx=>w5.b x (by simp at hx ⊢;rcases hx with hx | hx <;> simp [hx]))
    obtain ⟨s',n',gs',r1,r2,r3,r4,r5,r6,r7⟩:=rR hpar1 w3 (X:=q :: X) (q:=qk) (w4.perm (by rw [Bx];intro a;simp only [BE,BA];omega)) (by rw [BD];exact hk0) hlh
     (by simp only [Bt,Bw] at *;omega) (by
       have hcl:=eK w3;unfold kX at w7;unfold fO;by_cases h0:d=0
       ·rw [if_pos h0] at w7;rw [hcl,decide_eq_true h0,if_pos rfl];omega
       ·rw [if_neg h0] at w7;rw [hcl,decide_eq_false h0,if_neg (by simp)];omega)
    rw [BD,<- hkids,Bz,Cc k3] at r1;refine .inr ⟨w1,s',n',gs',?_,r2,r3.perm ?_,(w5.sub fun p hp=>by simp [hp]).trans (r4.sub fun p hp=>BB _ hp),?_,?_⟩
    ·rw [ah w2];simp only;rw [ah r1];rfl
    ·rw [Bx];intro a;simp only [BE,BA];omega
    ·simp only [Bt,Bw] at *;omega
    ·unfold kX;rw [if_neg (by omega),iw r7];rw [BD] at r6;omega
theorem ta {s:Sf} {d:Nat} {n:Nd} {ps:List Pr} {gs X:List Int} {q:Int} (hn:aU s.B d n [] none ps gs) (hs:Hp s ((q :: gs) ++ X)) (hk:d≠0->n.keys≠[]) (hb:bo n<=fO n) (hr:((q :: gs) ++ X).length+1<4095):
  ∃ s' d' gs',(fN q n).run s=(s',.ok ())/\Tr s'.B d' q ps (q :: gs')/\Hp s' ((q :: gs') ++ X)/\Kp X s s'/\d'<=d+1/\gs'.length<=gs.length+2:=by
 have hnd:=hs.nd;have hg:=fY hn ((List.nodup_cons.1 hnd).2.sublist (BV _ _)) (fun x hx=>hs.pg (BB _ (BC _ hx))) hk;unfold fN;cases hf:bw n
 ·rw [if_neg (by simp)];have hbig:capN n<bo n:=by
   rcases BN (capN n) (bo n) with h | h
   ·exact h
   ·rw [(eB hg).2 h] at hf;cases hf
  obtain ⟨o,s1,n1,n2,n3,n4⟩:=hs.new (by omega);have hn1:aU s1.B d n [] none ps gs:=bV d hn fun x hx=>n4.b x (by simp [hx])
  have n3':Hp s1 (o :: (gs ++ (q :: X))):=n3.perm (by rw [Bx];intro a;simp only [BE,BA];omega);obtain ⟨s2,r,key,p1,p2,g1,g2,w1,w2,w3,rfl,rfl,w6,w7,w8⟩:=qH ⟨false,[],[],[o]⟩ 0 (q:=o) rfl n3' (by simp only [Bt,Bw] at *;omega) hn1 hg hbig hb;have hor:o≠r:=by have:=w2.nd;rw [Cq,List.nodup_cons] at this;exact fun e=>this.1 (by rw [e];simp)
  have hoq:o≠q:=fun e=>n2 (by rw [e];simp)
  have htop:aD ⟨false,[key],[],[o,r]⟩=true:=eS (by simp [aH,w8]) (by simp) rfl (by simp [hor]) (fun x hx=>by
   simp only [List.mem_cons,BO,or_false] at hx;rcases hx with rfl | rfl
   ·exact w2.pg (by simp)
   ·exact w2.pg (by simp))
  obtain ⟨v1,v2,v3⟩:=dN htop ((cU htop).2 (by rw [iw rfl];simp only [fq,dI w8];simp [eA,capN];omega)) w2 (p:=q) (by simp);have hq:q ∉ (o :: g1) ++ (r :: g2) ++ X:=by have:=(w2.perm (U':=q :: ((o :: g1) ++ (r :: g2) ++ X)) (by rw [Bx];intro a;simp only [BE,BA];omega)).nd;exact (List.nodup_cons.1 this).1
  have hkp:=gN (s:=s2) (d:=aK (aw ⟨false,[key],[],[o,r]⟩)) hq;refine ⟨_,d+1,o :: g1 ++ (r :: g2),?_,⟨_,_,v3,rfl,node_succ.2 ⟨rfl,rfl,fun k hk=>by rw [List.mem_singleton.1 hk];exact w8,p1,p2,o :: g1,r :: g2,rfl,rfl,?_,?_⟩⟩,v2.perm ?_,?_,by omega,by simp only [Bt,Bw];omega⟩
  ·rw [n1,ah w1];exact v1
  ·exact js w6 fun x hx=>hkp.b x (by simp at hx ⊢;rcases hx with hx | hx <;> simp [hx])
  ·exact js w7 fun x hx=>hkp.b x (by simp at hx ⊢;rcases hx with hx | hx <;> simp [hx])
  ·rw [Bx];intro a;simp only [BE,BA];omega
  ·exact ((n4.sub fun x hx=>Bv _ hx).trans (w3.sub fun x hx=>BB _ hx)).trans (hkp.sub fun x hx=>Bv _ hx)
 ·rw [if_pos rfl];obtain ⟨w1,w2,w3⟩:=dN hg ((cU hg).2 ((eB hg).1 hf)) hs (p:=q) (by simp);have hkp:Kp (gs ++ X) s (eN s q (aK (aw n))):=gN (List.nodup_cons.1 hnd).1;exact ⟨_,d,gs,w1,⟨n,gs,w3,rfl,bV d hn fun x hx=>hkp.b x (BC _ hx)⟩,w2,hkp.sub (fun p hp=>Bv _ hp),by omega,by omega⟩
theorem vJ {s:Sf} {d:Nat} {n:Nd} {ps:List Pr} {gs X:List Int} {q:Int} (hn:aU s.B d n [] none ps gs) (hs:Hp s ((q :: gs) ++ X)) (hb:bo n<=kX d) (hr:((q :: gs) ++ X).length+1<4095):
  ∃ s' d' gs',(dR 1 q n).run s=(s',.ok ())/\Tr s'.B d' q ps (q :: gs')/\Hp s' ((q :: gs') ++ X)/\Kp X s s'/\d'<=d+1/\gs'.length<=gs.length+2:=by
 have hcap:∀ (d:Nat) (n:Nd),bo n<=kX d->n.leaf=decide (d=0)->bo n<=fO n:=fun d n h hl=>by
  unfold kX at h;unfold fO;rw [hl];by_cases h0:d=0
  ·rw [if_pos h0] at h;rw [decide_eq_true h0,if_pos rfl];omega
  ·rw [if_neg h0] at h;rw [decide_eq_false h0,if_neg (by simp)];omega
 unfold dR;by_cases hc:(!n.leaf && n.keys.isEmpty)=true
 ·rw [if_pos hc];rw [Ca] at hc;have hl:n.leaf=false:=by simpa using hc.1
  have hk:n.keys=[]:=by simpa using hc.2
  cases d with
  | zero=>rw [hn.1] at hl;cases hl
  | succ d=>
    obtain ⟨h1,h2,h3,h4⟩:=node_succ.1 hn;obtain ⟨nl,nk,nc,nd⟩:=n;simp only at h1 h2 h4 hk;subst h1 h2 hk;have hlen:=eQ h4;obtain ⟨x,rfl⟩:∃ x,nd=[x]:=by
     cases nd with
     | nil=>simp at hlen
     | cons x l=>cases l with
       | nil=>exact ⟨x,rfl⟩
       | cons=>simp at hlen
    obtain ⟨hne,m,g,hm,rfl,hmN⟩:=h4;rw [show ([x]:List Int).getD 0 0=x from rfl,ah (gt hs (by simp) hm)];have hs2:Hp s (x :: ((q :: g) ++ X)):=hs.perm (by rw [Bx];intro a;simp only [BE,BA];omega);obtain ⟨s1,f1,f2,f3⟩:=hs2.free;rw [f1];have hg:=eu hm;have hcp:=(cU hg.1).1 hg.2.1;have hmN1:aU s1.B d m [] none ps g:=bV d hmN fun y hy=>f3.b y (by simp [hy])
    obtain ⟨s',d',gs',r1,r2,r3,r4,r5,r6⟩:=ta hmN1 f2 (fun hd=>by
     have hl:=eK hmN;rw [decide_eq_false hd] at hl;exact (aQ hg.1 hl).2.1) (by unfold capN at hcp;unfold fO;cases hl:m.leaf <;> simp [hl] at hcp ⊢ <;> omega) (by simp only [Bt,Bw] at *;omega)
    exact ⟨s',d',gs',r1,r2,r3,(f3.sub fun y hy=>Bv _ hy).trans r4,by omega,by simp only [Bw];omega⟩
 ·rw [if_neg hc];have hl:=eK hn;exact ta hn hs (fun hd hk=>hc (by rw [hl,decide_eq_false hd,hk];rfl)) (hcap d n hb hl) hr
theorem lJ {act:Nd->Pro (Option Nd)} {k:By} {f:List Pr->List Pr} {did:List Pr->Bool} (ha:LeafAct act k f did) {s:Sf} {d:Nat} {q:Int} {ps:List Pr} {gs X:List Int} (hd:d<=19) (ht:Tr s.B d q ps (q :: gs))
  (hs:Hp s ((q :: gs) ++ X)) (hr:((q :: gs) ++ X).length+50<=4094):
  ∃ s' d' gs',(cJ act q k).run s=(s',.ok (did ps))/\Tr s'.B d' q (if did ps then f ps else ps) (q :: gs')/\Hp s' ((q :: gs') ++ X)/\Kp X s s'/\d'<=d+1/\gs'.length<=gs.length+25+d:=by
 obtain ⟨n,g,hn,hg,hN⟩:=ht;injection hg with _ hg
 subst hg;unfold cJ;rcases ph ha d 19 hd hn hN ⟨kq k,fun h e=>by cases e⟩ hs (by omega) with ⟨w1,w2⟩ | ⟨w1,s1,c,gc,w2,w3,w4,w5,w6,w7⟩
 ·refine ⟨s,d,gs,?_,?_,hs,Kp.refl _ _,by omega,by omega⟩
  ·rw [ah w2,w1];rfl
  ·rw [w1];exact ⟨n,gs,hn,rfl,hN⟩
 ·obtain ⟨s',d',gs',r1,r2,r3,r4,r5,r6⟩:=vJ w3 w4 w7 (by simp only [Bt,Bw] at *;omega);refine ⟨s',d',gs',?_,?_,r3,w5.trans r4,r5,by omega⟩
  ·rw [ah w2];simp only;rw [ah r1,w1];rfl
  ·rw [w1,if_pos rfl];exact r2
theorem xJ (k v:By) (hk:k.length<=64) (hv:v.length<=5000):LeafAct (aP k v) k (fun ps=>putP ps k v) (fun _=>true):=by
 refine ⟨fun h1 h2=>⟨vQ h1 h2,rfl⟩,fun {s n lo hi ps gs X} hn hb hs hr hcap=>.inr ⟨rfl,?_⟩⟩;obtain ⟨g1,g2,rfl,hL,hno,hyes⟩:=mQ hn k;obtain ⟨a1,a2,a3,a4,a5⟩:=hn;have hpw:=(rises_pw.1 a3).2;have h64:=(rises_pw.1 a3).1;obtain ⟨l1,l2,l3⟩:=jt (k:=k) hpw;obtain ⟨_,hcl,hcg⟩:=bY a5;obtain ⟨nl,nk,nc,nd⟩:=n;simp only at *;subst a1 a2;have hbody:bo ⟨true,nk,nc,[]⟩=(bC nk nc).length:=rfl;unfold aP;simp only;cases hi:jT nk k
 ·rw [if_neg (by simp)];obtain ⟨_,hR⟩:=hno hi;obtain ⟨s',c,gc,r1,r2,r3,r4,r5,r6⟩:=nu hv hs (by omega);rw [ah r1];have e1:nk.insertIdx (cj nk k) k=nk.take (cj nk k) ++ k :: nk.drop (cj nk k):=by
   have:=fB (nk.take (cj nk k)) (nk.drop (cj nk k)) k
   rwa [BD,Bz,Cc l3] at this
  have e2:nc.insertIdx (cj nk k) c=nc.take (cj nk k) ++ c :: nc.drop (cj nk k):=by
   have:=fB (nc.take (cj nk k)) (nc.drop (cj nk k)) c
   rwa [BD,Bz,Cc (by omega)] at this
  have hlen:=r4.len;refine ⟨s',_,g1 ++ (gc ++ g2),rfl,⟨rfl,rfl,?_,fun x hx=>?_,?_⟩,r2.perm ?_,r3.sub (fun x hx=>Bv _ hx),?_,?_⟩
  ·simp only;rw [e1];have hgt:=lr hpw hi;refine rises_pw.2 ⟨fun x hx=>?_,List.pairwise_append.2 ⟨hpw.sublist (BS _ _),List.pairwise_cons.2 ⟨hgt,hpw.sublist (BL _ _)⟩,fun a ha b hb=>?_⟩⟩
   ·rcases List.mem_append.1 hx with hx | hx
    ·exact h64 x (BJ hx)
    ·rcases List.mem_cons.1 hx with rfl | hx
     ·exact hk
     ·exact h64 x (BK hx)
   ·rcases List.mem_cons.1 hb with rfl | hb
    ·exact l1 a ha
    ·exact cS (l1 a ha) (hgt b hb)
  ·simp only at hx;rw [e1] at hx;rcases List.mem_append.1 hx with hx | hx
   ·exact a4 x (BJ hx)
   ·rcases List.mem_cons.1 hx with rfl | hx
    ·exact hb
    ·exact a4 x (BK hx)
  ·simp only;rw [e1,e2];exact ib (ej hL fun x hx=>r3.b x (by simp [hx])) ⟨v,gc,_,g2,rfl,rfl,r4,ej hR fun x hx=>r3.b x (by simp [hx])⟩
  ·rw [Bx];intro a;simp only [BA];omega
  ·simp only [Bt];omega
  ·show (bC _ _).length<=336;simp only;rw [e1,e2,eq _ _ _ _ (by rw [Bz,Bz];omega)];have hsum:(bC nk nc).length=(bC (nk.take (cj nk k)) (nc.take (cj nk k))).length+(bC (nk.drop (cj nk k)) (nc.drop (cj nk k))).length:=by rw [<- Bt,<- eq _ _ _ _ (by rw [Bz,Bz];omega),BD,BD]
   have:=dI hk;simp only [bC,Bt];omega
 ·rw [if_pos rfl];obtain ⟨v0,g3,g4,rfl,_,hC,hR⟩:=hyes hi;obtain ⟨i1,i2,i3⟩:=fU hi;have hs1:Hp s (g3 ++ (g1 ++ g4 ++ X)):=hs.perm (by rw [Bx];intro a;simp only [BA];omega);obtain ⟨s1,d1,d2,d3⟩:=oR hs1 hC;rw [ah d1];obtain ⟨s',c,gc,r1,r2,r3,r4,r5,r6⟩:=nu hv d2 (by simp only [Bt] at *;omega);rw [ah r1];have hlen:=r4.len;obtain ⟨c0,hc0⟩:∃ c0,nc.getD (cj nk k) ⟨0,[],0⟩=c0:=⟨_,rfl⟩;have hcd:nc=nc.take (cj nk k) ++ c0 :: nc.drop (cj nk k+1):=by rw [<- hc0,BG,BH (by omega),Cb,<- BF (by omega),BD]
  have hkd:nk=nk.take (cj nk k) ++ k :: nk.drop (cj nk k+1):=by rw [<- i3,BD]
  have e2:nc.set (cj nk k) c=nc.take (cj nk k) ++ c :: nc.drop (cj nk k+1):=by
   have:=td (nc.take (cj nk k)) (nc.drop (cj nk k+1)) c0 c
   rwa [<- hcd,Bz,Cc (by omega)] at this
  refine ⟨s',_,g1 ++ (gc ++ g4),rfl,⟨rfl,rfl,a3,a4,?_⟩,r2.perm ?_,(d3.sub fun x hx=>Bv _ hx).trans (r3.sub fun x hx=>Bv _ hx),?_,?_⟩
  ·simp only;rw [e2]
   have hh:=ib (ej hL fun x hx=>(r3.b x (by simp [hx])).trans (d3.b x (by simp [hx]))) (k2:=k :: nk.drop (cj nk k+1)) (c2:=c :: nc.drop (cj nk k+1)) (p2:=(k,v) :: lw ps k) (g2:=gc ++ g4)
    ⟨v,gc,_,g4,rfl,rfl,r4,ej hR fun x hx=>(r3.b x (by simp [hx])).trans (d3.b x (by simp [hx]))⟩
   rw [<- hkd] at hh;exact hh
  ·rw [Bx];intro a;simp only [BA];omega
  ·simp only [Bt];omega
  ·show (bC _ _).length<=336;simp only;rw [e2];have hsum:(bC nk nc).length=(bC (nk.take (cj nk k)) (nc.take (cj nk k))).length+(bC (k :: nk.drop (cj nk k+1)) (c0 :: nc.drop (cj nk k+1))).length:=by rw [<- Bt,<- eq _ _ _ _ (by rw [Bz,Bz];omega),<- hkd,<- hcd]
   have hsum2:(bC nk (nc.take (cj nk k) ++ c :: nc.drop (cj nk k+1))).length=(bC (nk.take (cj nk k)) (nc.take (cj nk k))).length+(bC (k :: nk.drop (cj nk k+1)) (c :: nc.drop (cj nk k+1))).length:=by rw [<- Bt,<- eq _ _ _ _ (by rw [Bz,Bz];omega),<- hkd]
   rw [hsum2];simp only [bC,Bt] at hsum ⊢;omega
theorem ye (k:By):LeafAct (aT k) k (fun ps=>jO ps k) (fun ps=>(kt ps k).isSome):=by
 refine ⟨fun {a b c} h1 h2=>⟨wQ h1 h2,?_⟩,fun {s n lo hi ps gs X} hn hb hs hr hcap=>?_⟩
 ·rw [rf (fun p hp=>ir (h1 p hp)) (fun p hp=>(ir (h2 p hp)).symm)]
 obtain ⟨g1,g2,rfl,hL,hno,hyes⟩:=mQ hn k;obtain ⟨a1,a2,a3,a4,a5⟩:=hn;obtain ⟨_,hcl,hcg⟩:=bY a5;obtain ⟨nl,nk,nc,nd⟩:=n;simp only at *;subst a1 a2;have hbody:bo ⟨true,nk,nc,[]⟩=(bC nk nc).length:=rfl;unfold aT;simp only;cases hi:jT nk k
 ·rw [if_neg (by simp)];obtain ⟨h1,_⟩:=hno hi;exact .inl ⟨by rw [h1];rfl,rfl⟩
 ·rw [if_pos rfl];obtain ⟨v0,g3,g4,rfl,hget,hC,hR⟩:=hyes hi;obtain ⟨i1,i2,i3⟩:=fU hi;have hs1:Hp s (g3 ++ (g1 ++ g4 ++ X)):=hs.perm (by rw [Bx];intro a;simp only [BA];omega);obtain ⟨s1,d1,d2,d3⟩:=oR hs1 hC;rw [ah d1];obtain ⟨c0,hc0⟩:∃ c0,nc.getD (cj nk k) ⟨0,[],0⟩=c0:=⟨_,rfl⟩;have hcd:nc=nc.take (cj nk k) ++ c0 :: nc.drop (cj nk k+1):=by rw [<- hc0,BG,BH (by omega),Cb,<- BF (by omega),BD]
  have hkd:nk=nk.take (cj nk k) ++ k :: nk.drop (cj nk k+1):=by rw [<- i3,BD]
  have e1:nk.eraseIdx (cj nk k)=nk.take (cj nk k) ++ nk.drop (cj nk k+1):=BZ ..;have e2:nc.eraseIdx (cj nk k)=nc.take (cj nk k) ++ nc.drop (cj nk k+1):=BZ ..;refine .inr ⟨by rw [hget];rfl,s1,_,g1 ++ g4,rfl,⟨rfl,rfl,fg a3 (Cl _ _),fun x hx=>a4 x ((Cl _ _).subset hx),?_⟩,d2,d3.sub (fun x hx=>Bv _ hx),?_,?_⟩
  ·simp only;rw [e1,e2];exact ib (ej hL fun x hx=>d3.b x (by simp [hx])) (ej hR fun x hx=>d3.b x (by simp [hx]))
  ·simp only [Bt];omega
  ·show (bC _ _).length<=336;simp only;rw [e1,e2,eq _ _ _ _ (by rw [Bz,Bz];omega)];have hsum:(bC nk nc).length=(bC (nk.take (cj nk k)) (nc.take (cj nk k))).length+(bC (k :: nk.drop (cj nk k+1)) (c0 :: nc.drop (cj nk k+1))).length:=by rw [<- Bt,<- eq _ _ _ _ (by rw [Bz,Bz];omega),<- hkd,<- hcd]
   simp only [bC,Bt] at hsum ⊢;omega
theorem Hp.spare {s:Sf} {U:List Int} (h:Hp s U):s.h.spare+U.length+1=s.h.pages:=by obtain ⟨F,h⟩:=h;have:=h.count;have:=h.sp;omega
theorem Hp.left {s:Sf} {U:List Int} (h:Hp s U):s.left=-1:=let ⟨_,h⟩:=h;h.left
theorem Hp.ok {s:Sf} {U:List Int} (h:Hp s U):s.Ok:=let ⟨_,h⟩:=h;h.ok
theorem mV {T:TP} {N:Nat} (hT:∀ {d lo hi ps gs},T d lo hi ps gs->N<=ps.length):∀ {ks:List By} {ds:List Int} {lo:By} {hi:Option By} {ps:List Pr} {gs:List Int},cO T lo ks hi ds ps gs->ds.length * N<=ps.length
 | [],[],_,_,_,_,h=>h.elim
 | [],[d],_,_,_,_,h=>by have:=hT h;simpa using this
 | [],_ :: _ :: _,_,_,_,_,h=>h.elim
 | k :: ks,[],_,_,_,_,h=>h.elim
 | k :: ks,d :: ds,lo,hi,_,_,h=>by
   obtain ⟨p1,p2,g1,g2,rfl,rfl,h1,h2⟩:=h;have:=hT h1;have:=mV hT h2;rw [Bw,Nat.succ_mul,Bt];omega
theorem oB (B:Int->By):∀ (d:Nat) {n:Nd} {p:Int} {lo:By} {hi:Option By} {ps:List Pr} {gs:List Int},dO (B p)=some n->aU B d n lo hi ps gs->ps≠[]->2 ^ d<=ps.length
 | 0,n,p,lo,hi,ps,gs,_,_,h=>by have:=List.length_pos_iff.2 h;simp only [Nat.pow_zero];omega
 | d+1,n,p,lo,hi,ps,gs,hd,hn,_=>by
   obtain ⟨h1,h2,h3,h4⟩:=node_succ.1 hn;have hg:=aQ (eu hd).1 h1;have hkl:=eQ h4;have hk:2<=n.kids.length:=by have:=List.length_pos_iff.2 hg.2.1;omega
   have:=mV (N:=2 ^ d) (fun h=>by obtain ⟨hne,m,g,hm,_,hN⟩:=h;exact oB B d hm hN hne) h4;have h5:=Nat.mul_le_mul_right (2 ^ d) hk;rw [Nat.pow_succ];omega
theorem Tr.deep {B:Int->By} {d:Nat} {q:Int} {ps:List Pr} {gs:List Int} (h:Tr B d q ps gs):d=0\/2 ^ d<=ps.length:=by
 obtain ⟨n,g,hn,_,hN⟩:=h;rcases Nat.eq_zero_or_pos d with h | h
 ·exact .inl h
 ·refine .inr (oB B d hn hN ?_);exact pI hN (fun e=>by omega)
theorem Tr.AL {B:Int->By} {d:Nat} {q:Int} {ps:List Pr} {gs:List Int} (h:Tr B d q ps gs) {m:Nat} (hp:ps.length<2 ^ (m+1)):d<=m:=by
 rcases h.deep with h | h
 ·omega
 ·rcases BN m d with h2 | h2
  ·have:=Nat.pow_le_pow_right (n:=2) (by omega) (show m+1<=d from h2);omega
  ·exact h2
theorem uz {l:By} (hl:l.length=232) {left:Nat} {next:Int} {part:By} (h:gx l left=some (next,part)):part.length=min left 227:=by
 unfold gx at h
 split at h
 ·injection h with h
  injection h with _ h
  rw [<- h,Bz,BP,hl]
 ·cases h
theorem Lk.Bf {B:Int->By} (hB:∀ n,(B n).length=232) {left:Nat} {p:Int} {v:By} {ps:List Int} (h:Lk B left p v ps):v.length=left:=by
 induction h with
 | nil=>rfl
 | cons h0 h1 _ ih=> rw [Bt,ih,uz (hB _) h1];omega
theorem Cel.chn {B:Int->By} (hB:∀ n,(B n).length=232) {c:Ce} {v:By} {ps:List Int} (h:Cel B c v ps):ps.length=chn v:=by
 obtain ⟨hg,h⟩:=h;unfold Go.Proofs.YtknioodagnjchaaGreatDoor.chn
 split at h
 ·rename_i hc
  obtain ⟨_,h2,_⟩:=fJ hg (by omega);rw [h.1,h.2,if_pos (by omega)];rfl
 ·rename_i hc
  have:=h.Bf hB;rw [h.len,this,if_neg (by omega)]
def wt (ps:List Pr):Nat:=(ps.map fun p=>2+chn p.2).sum
theorem pj (a b:List Pr):wt (a ++ b)=wt a+wt b:=by simp [wt]
theorem dZ (p:Pr) (a:List Pr):wt (p :: a)=2+chn p.2+wt a:=by simp [wt]
theorem jQ {B:Int->By} (hB:∀ n,(B n).length=232):∀ {ks:List By} {cs:List Ce} {ps:List Pr} {gs:List Int},cY B ks cs ps gs->gs.length+2 * ps.length=wt ps
 | [],[],_,_,⟨rfl,rfl⟩=>rfl
 | [],_ :: _,_,_,h=>h.elim
 | _ :: _,[],_,_,h=>h.elim
 | k :: ks,c :: cs,_,_,h=>by
   obtain ⟨v,g1,p2,g2,rfl,rfl,h1,h2⟩:=h;have:=jQ hB h2;have h3:=h1.chn hB;rw [dZ,Bt,Bw];simp only;omega
theorem mU {T:TP} (hT:∀ {d lo hi ps gs},T d lo hi ps gs->gs.length+1<=wt ps):∀ {ks:List By} {ds:List Int} {lo:By} {hi:Option By} {ps:List Pr} {gs:List Int},cO T lo ks hi ds ps gs->gs.length+ds.length<=wt ps
 | [],[],_,_,_,_,h=>h.elim
 | [],[d],_,_,_,_,h=>by have:=hT h;simpa using this
 | [],_ :: _ :: _,_,_,_,_,h=>h.elim
 | k :: ks,[],_,_,_,_,h=>h.elim
 | k :: ks,d :: ds,lo,hi,_,_,h=>by
   obtain ⟨p1,p2,g1,g2,rfl,rfl,h1,h2⟩:=h;have:=hT h1;have:=mU hT h2;rw [Bw,pj,Bt];omega
theorem mN {B:Int->By} (hB:∀ n,(B n).length=232):∀ (d:Nat) {n:Nd} {p:Int} {lo:By} {hi:Option By} {ps:List Pr} {gs:List Int},dO (B p)=some n->aU B d n lo hi ps gs->ps≠[]->gs.length+2<=wt ps
 | 0,n,p,lo,hi,ps,gs,_,hn,h=>by
   have:=jQ hB hn.2.2.2.2;have:=List.length_pos_iff.2 h;omega
 | d+1,n,p,lo,hi,ps,gs,hd,hn,_=>by
   obtain ⟨h1,h2,h3,h4⟩:=node_succ.1 hn;have hg:=aQ (eu hd).1 h1;have hkl:=eQ h4;have hk:2<=n.kids.length:=by have:=List.length_pos_iff.2 hg.2.1;omega
   have:=mU (fun h=>by obtain ⟨hne,m,g,hm,rfl,hN⟩:=h;have:=mN hB d hm hN hne;simp only [Bw];omega) h4;omega
theorem Tr.pages {B:Int->By} (hB:∀ n,(B n).length=232) {d:Nat} {q:Int} {ps:List Pr} {gs:List Int} (h:Tr B d q ps gs):gs.length<=wt ps+1:=by
 obtain ⟨n,g,hn,rfl,hN⟩:=h;by_cases hp:ps=[]
 ·subst hp;cases d with
  | zero=> have:=jQ hB hN.2.2.2.2;simp [wt] at this;simp [this,wt]
  | succ d=>exact absurd rfl (pI hN (fun e=>by omega))
 ·have:=mN hB d hn hN hp;rw [Bw];omega
theorem Tr.Aw {B:Int->By} (hB:∀ n,(B n).length=232) {d:Nat} {q:Int} {gs:List Int} (h:Tr B d q [] gs):gs=[q]:=by have h1:=h.pages hB;obtain ⟨n,g,hn,rfl,hN⟩:=h;simp only [wt,List.map_nil,List.sum_nil,Bw] at h1;have:g=[]:=List.length_eq_zero_iff.1 (by omega);rw [this]
theorem Tr.head {B:Int->By} {d:Nat} {q:Int} {ps:List Pr} {gs:List Int} (h:Tr B d q ps gs):∃ g,gs=q :: g:=let ⟨_,g,_,h,_⟩:=h;⟨g,h⟩
theorem Tr.srt {B:Int->By} {d:Nat} {q:Int} {ps:List Pr} {gs:List Int} (h:Tr B d q ps gs):zo ps/\∀ p ∈ ps,p.1.length<=64:=by obtain ⟨n,g,hn,rfl,hN⟩:=h;have:=dr B d hN;exact ⟨this.2.1,this.2.2.1⟩
theorem oV {s:Sf} {U:List Int} (hs:Hp s U):∀ {ks:List By} {cs:List Ce} {ps:List Pr} {gs:List Int} (out:List Int),cY s.B ks cs ps gs->(∀ x ∈ gs,x ∈ U)->(eU cs out).run s=(s,.ok (out ++ gs))
 | [],[],_,_,out,⟨rfl,rfl⟩,_=>by simp [eU,Pro.run]
 | [],_ :: _,_,_,_,h,_=>h.elim
 | _ :: _,[],_,_,_,h,_=>h.elim
 | k :: ks,c :: cs,_,_,out,h,hu=>by
   obtain ⟨v,g1,p2,g2,rfl,rfl,h1,h2⟩:=h;unfold eU;rw [ah (h1.run hs fun x hx=>hu x (BC _ hx)),oV hs (out ++ g1) h2 fun x hx=>hu x (Bv _ hx),Cg]
def eR (f:Nat):List Int->List Int->Pro (List Int)
 | [],out=>.pure out
 | k :: ks,out=>(bL f k out).bind fun o=>eR f ks o
theorem fA {α β γ:Type}:∀ (p:Pro α) (f:α->Pro β) (g:β->Pro γ),(p.bind f).bind g=p.bind fun a=>(f a).bind g
 | .pure a,f,g=>rfl
 | .fail e,f,g=>rfl
 | .get n k,f,g=>by simp only [Pro.bind];congr 1;funext l;exact fA _ f g
 | .put n d k,f,g=>by simp only [Pro.bind];congr 1;funext l;exact fA _ f g
 | .new k,f,g=>by simp only [Pro.bind];congr 1;funext l;exact fA _ f g
 | .free n k,f,g=>by simp only [Pro.bind];congr 1;funext l;exact fA _ f g
theorem lp (f:Nat):∀ (ks:List Int) (p:Pro (List Int)),ks.foldl (fun p k=>p.bind fun o=>bL f k o) p=p.bind (eR f ks)
 | [],p=>by
   simp only [List.foldl_nil];have:(eR f [])=Pro.pure:=by funext o;rfl
   rw [this];have hb:∀ p:Pro (List Int),p.bind Pro.pure=p:=by
    intro p
    induction p with
    | pure a=>rfl
    | fail e=>rfl
    | get n k ih=>simp only [Pro.bind];congr 1;funext l;exact ih l
    | put n d k ih=>simp only [Pro.bind];congr 1;funext l;exact ih l
    | new k ih=>simp only [Pro.bind];congr 1;funext l;exact ih l
    | free n k ih=>simp only [Pro.bind];congr 1;funext l;exact ih l
   rw [hb]
 | k :: ks,p=>by
   rw [List.foldl_cons,lp f ks,fA];rfl
theorem lg {s:Sf} {U:List Int} (hs:Hp s U):∀ (d f:Nat) {q:Int} {n:Nd} {lo:By} {hi:Option By} {ps:List Pr} {gs:List Int} (out:List Int),d<f->dO (s.B q)=some n->aU s.B d n lo hi ps gs->(∀ x ∈ q :: gs,x ∈ U)->out.length+gs.length<4096->
  (bL f q out).run s=(s,.ok (out ++ q :: gs))
 | 0,f,q,n,lo,hi,ps,gs,out,hf,hd,hn,hu,hl=>by
   obtain ⟨f,rfl⟩:∃ g,f=g+1:=⟨f - 1,by omega⟩;unfold bL;rw [ah (gt hs (hu q BI) hd),if_neg (by omega),ah (oV hs _ hn.2.2.2.2 fun x hx=>hu x (BB _ hx)),hn.2.1];simp [Pro.run]
 | d+1,f,q,n,lo,hi,ps,gs,out,hf,hd,hn,hu,hl=>by
   obtain ⟨f,rfl⟩:∃ g,f=g+1:=⟨f - 1,by omega⟩;obtain ⟨h1,h2,h3,h4⟩:=node_succ.1 hn
   have hkids:∀ {ks:List By} {ds:List Int} {lo:By} {hi:Option By} {ps:List Pr} {gs:List Int} (out:List Int),cO (iD s.B d) lo ks hi ds ps gs->(∀ x ∈ gs,x ∈ U)->out.length+gs.length<=4096->(eR f ds out).run s=(s,.ok (out ++ gs)):=by
    intro ks
    induction ks with
    | nil=>
      intro ds lo hi ps gs out h hu hl
      match ds,h with
      | [x],h=> obtain ⟨_,m,g,hm,rfl,hN⟩:=h;unfold eR;rw [ah (lg hs d f out (by omega) hm hN hu (by simp only [Bw] at hl;omega))];rfl
    | cons k ks ih=>
      intro ds lo hi ps gs out h hu hl
      match ds,h with
      | x :: ds,h=> obtain ⟨p1,p2,g1,g2,rfl,rfl,⟨_,m,g,hm,rfl,hN⟩,h2⟩:=h;unfold eR;rw [ah (lg hs d f out (by omega) hm hN (fun y hy=>hu y (BC _ hy)) (by simp only [Bt,Bw] at hl;omega))];rw [ih (out ++ x :: g) h2 (fun y hy=>hu y (Bv _ hy)) (by simp only [Bt,Bw] at *;omega),Cg]
   unfold bL;rw [ah (gt hs (hu q BI) hd),if_neg (by omega),h2];rw [show (eU [] (out ++ [q]))=.pure (out ++ [q]) from rfl];rw [show (Pro.pure (out ++ [q])).bind (fun o=>List.foldl (fun p k=>p.bind fun o=>bL f k o) (Pro.pure o) n.kids)=List.foldl (fun p k=>p.bind fun o=>bL f k o) (Pro.pure (out ++ [q])) n.kids from rfl];rw [lp,show (Pro.pure (out ++ [q])).bind (eR f n.kids)=eR f n.kids (out ++ [q]) from rfl];rw [hkids (out ++ [q]) h4 (fun x hx=>hu x (BB _ hx)) (by simp only [Bt,Bw,BR];omega)];simp
theorem qN {s:Sf} {d:Nat} {q:Int} {ps:List Pr} {gs U:List Int} (ht:Tr s.B d q ps gs) (hd:d<=19) (hs:Hp s U) (hu:∀ x ∈ gs,x ∈ U) (hl:gs.length<=4096):(iG q).run s=(s,.ok gs):=by obtain ⟨n,g,hn,rfl,hN⟩:=ht;unfold iG;rw [lg hs d 20 [] (by omega) hn hN hu (by simp only [Bw,BR] at *;omega)];rfl
theorem xD {s:Sf} {d:Nat} {q:Int} {ps:List Pr} {gs X:List Int} (ht:Tr s.B d q ps gs) (hd:d<=19) (hs:Hp s (gs ++ X)) (hr:(gs ++ X).length+50<=4094) {k v:By} (hk:k.length<=64) (hv:v.length<=5000):
  ∃ s' d' gs',(dS q k v).run s=(s',.ok ())/\Tr s'.B d' q (putP ps k v) gs'/\Hp s' (gs' ++ X)/\Kp X s s':=by
 obtain ⟨g,rfl⟩:=ht.head;obtain ⟨s',d',gs',r1,r2,r3,r4,_,_⟩:=lJ (xJ k v hk hv) hd ht hs hr;refine ⟨s',d',q :: gs',?_,r2,r3,r4⟩;unfold dS;rw [if_neg (by omega),if_neg (by omega),ah r1];rfl
theorem yb {s:Sf} {d:Nat} {q:Int} {ps:List Pr} {gs X:List Int} (ht:Tr s.B d q ps gs) (hd:d<=19) (hs:Hp s (gs ++ X)) (hr:(gs ++ X).length+50<=4094) (k:By):
  ∃ s' d' gs',(kz q k).run s=(s',.ok (kt ps k).isSome)/\Tr s'.B d' q (jO ps k) gs'/\Hp s' (gs' ++ X)/\Kp X s s':=by
 obtain ⟨g,rfl⟩:=ht.head;obtain ⟨s',d',gs',r1,r2,r3,r4,_,_⟩:=lJ (ye k) hd ht hs hr;refine ⟨s',d',q :: gs',r1,?_,r3,r4⟩;have hsrt:=ht.srt.1;cases h:kt ps k with
 | some v=>rw [h] at r2;simpa using r2
 | none=>
   rw [h] at r2;have:jO ps k=ps:=by
    have hno:∀ p ∈ ps,p.1≠k:=fun p hp e=>by
     unfold kt at h;rw [Option.map_eq_none_iff,List.find?_eq_none] at h;exact h p hp (by simpa using e)
    clear r2 r1 hr ht h;unfold jO mP lw
    induction ps with
    | nil=>rfl
    | cons p l ih=>
      have h1:=List.pairwise_cons.1 hsrt;have h2:=ih h1.2 fun x hx=>hno x (BB _ hx)
      rcases ju p.1 k with h3 | h3 | h3
      ·rw [Ci (by simpa using h3),BX (by simp [aL h3]),Cq,h2]
      ·exact absurd h3 (hno p BI)
      ·have h4:l.filter (fun p=>bM p.1 k)=[]:=List.filter_eq_nil_iff.2 fun x hx=>by
        have:=cS h3 (h1.1 x hx);simp [aL this]
       rw [BX (by simp [aL h3]),Ci (by simpa using h3),h4,BQ];rw [h4,BQ] at h2;rw [h2]
   rw [this];exact r2
end Go.Proofs.YtknioodagnjchaaGreatDoor
