/- The walk of cahierlaw17.WalkFails. A tree that changes while it is gone over; plain. -/
import Derived.Test.YtknioodagnjchaaGreatDoorUWe
import Derived.Test.YtknioodagnjchaaGreatDoorUWd
namespace Go.Proofs.YtknioodagnjchaaGreatDoor
open Go.RowKit Go.Shelf
attribute [local go_sem] Oper.semAt_some
section
variable {gs gm:Nat} {s:Sf} {w:World} {root:Int}
end
end Go.Proofs.YtknioodagnjchaaGreatDoor
namespace Go.Proofs.YtknioodagnjchaaGreatDoor
def qT (d:Bool) (a b:By):Bool:=if d then aU b a else aU a b
theorem nI (d:Bool) (a:By):qT d a a=false:=by unfold qT;split <;> exact db a
theorem rU {d:Bool} {a b c:By} (h:qT d a b=true) (h2:qT d b c=true):qT d a c=true:=by
 unfold qT at *;cases d
 ·exact ca h h2
 ·exact ca h2 h
def jJ (d:Bool) (ps:List Pr):List Pr:=if d then ps.reverse else ps
theorem ordD_mem {d:Bool} {ps:List Pr} {p:Pr}:p ∈ jJ d ps↔p ∈ ps:=by unfold jJ;split <;> simp
theorem sF {d:Bool} {ps:List Pr} (h:qe ps):(jJ d ps).Pairwise fun a b=>qT d a.1 b.1=true:=by
 unfold jJ qT
 split
 ·exact List.pairwise_reverse.2 h
 ·exact h
def qS (d:Bool) (m:Option By) (k:By):Bool:=match m with
 | none=>true
 | some x=>qT d x k
def jL (d:Bool) (ps:List Pr) (m:Option By):Option Pr:=((jJ d ps).filter fun p=>qS d m p.1).head?
theorem jK {d:Bool} {ps:List Pr} {m:Option By} {p:Pr} (h:qe ps) (e:jL d ps m=some p):p ∈ ps∧qS d m p.1=true∧∀ q ∈ ps,qS d m q.1=true→q=p∨qT d p.1 q.1=true:=by
 unfold jL at e;have hs:=(sF (d:=d) h).filter (fun p=>qS d m p.1);have hm:∀ q,q ∈ (jJ d ps).filter (fun p=>qS d m p.1)↔q ∈ ps∧qS d m q.1=true:=fun q=>by rw [List.mem_filter,ordD_mem]
 generalize (jJ d ps).filter (fun p=>qS d m p.1)=l at *;cases l with
 | nil=>cases e
 | cons a l=>
   injection e with e
   subst e;have h1:=(hm a).1 List.mem_cons_self;refine ⟨h1.1,h1.2,fun q hq hb=>?_⟩;rcases List.mem_cons.1 ((hm q).2 ⟨hq,hb⟩) with h2 | h2
   ·exact .inl h2
   ·exact .inr ((List.pairwise_cons.1 hs).1 q h2)
theorem rp {d:Bool} {ps:List Pr} {m:Option By} (e:jL d ps m=none):∀ q ∈ ps,qS d m q.1=false:=fun q hq=>by
 cases hb:qS d m q.1
 ·rfl
 ·unfold jL at e;have:q ∈ (jJ d ps).filter (fun p=>qS d m p.1):=List.mem_filter.2 ⟨ordD_mem.2 hq,hb⟩;rw [List.head?_eq_none_iff.1 e] at this;cases this
def uv (d:Bool) (root:Int):Pro (Option Pr):=if d then eu [] root else au (cY [] false) 20 root
def uo (d:Bool) (root:Int) (k:By):Pro (Option Pr):=if d then au (kE k true) 20 root else au (cY k true) 20 root
theorem TS.nxt {s:Sf} {q:Int} {ps:List Pr} {X:List Int} (h:TS s q ps X) (hw:wt ps+X.length+60≤4094) (d:Bool) (pre:List (Pr × Int)):
  (gS (uv d q) (uo d q) pre).run s=(s,.ok (jL d ps (pre.getLast?.map fun x=>x.1.1))):=by
 unfold gS;cases hp:pre.getLast? with
 | none=>
   simp only [Option.map_none];unfold uv jL;have e:(jJ d ps).filter (fun p=>qS d none p.1)=jJ d ps:=List.filter_eq_self.2 fun _ _=>rfl
   rw [e];cases d
   ·rw [if_neg (by simp),h.from hw];unfold fJ jJ;rw [List.filter_eq_self.2 fun p _=>by unfold PF;simp [gA]];rfl
   ·rw [if_pos rfl];unfold eu jJ;show (au lastK 20 q).run s=(s,.ok ps.reverse.head?);rw [h.last hw,List.head?_reverse]
 | some x=>
   simp only [Option.map_some];unfold uo jL;cases d
   ·rw [if_neg (by simp),h.from hw];rfl
   ·rw [if_pos rfl,h.to hw];unfold nU jJ;rw [if_pos rfl,List.filter_reverse,List.head?_reverse];rfl
theorem lq {ps:List Pr} (h:qe ps) {p:Pr} (hp:p ∈ ps):dG ps p.1=some p.2:=by
 unfold dG;obtain ⟨l1,l2,rfl⟩:=List.append_of_mem hp;have h1:=List.pairwise_append.1 h
 rw [List.find?_append,List.find?_eq_none.2 fun q hq=>by
  have:=eh (h1.2.2 q hq p List.mem_cons_self);simpa using this]
 rw [List.find?_cons];simp
theorem kh {ps:List Pr} {k:By} (h:(dG ps k).isSome=true):∃ v,(k,v) ∈ ps:=by
 unfold dG at h;rw [Option.isSome_map] at h;obtain ⟨p,hp⟩:=Option.isSome_iff_exists.1 h;have h1:=List.find?_some hp;have h2:=List.mem_of_find?_eq_some hp;have e:p.1=k:=by simpa using h1
 exact ⟨p.2,by rw [← e];exact h2⟩
theorem pH {U l:List By} (hn:l.Nodup) (hs:∀ x ∈ l,x ∈ U):l.length≤U.length:=by
 induction l generalizing U with
 | nil=>exact Nat.zero_le _
 | cons a l ih=>
   obtain ⟨h1,h2⟩:=List.nodup_cons.1 hn;have ha:=hs a List.mem_cons_self;have:=ih (U:=U.erase a) h2 fun x hx=>(List.mem_erase_of_ne (fun e=>h1 (by rw [← e];exact hx))).2 (hs x (List.mem_cons_of_mem _ hx))
   rw [List.length_erase_of_mem ha] at this;have:=List.length_pos_of_mem ha;rw [List.length_cons];omega
structure Chg (d:Bool) (T U:List By) (ps:List Pr) (met:List By):Prop where
 stay:∀ t ∈ T,(dG ps t).isSome=true
 all:∀ p ∈ ps,p.1 ∈ U
 sub:∀ k ∈ met,k ∈ U
 srt:met.Pairwise fun a b=>qT d a b=true
 got:∀ t ∈ T,t ∈ met∨qS d met.getLast? t=true
section
variable {d:Bool} {T U:List By} {ps:List Pr} {met:List By}
theorem Chg.len (h:Chg d T U ps met):met.length≤U.length:=pH (h.srt.imp fun {a b} hab e=>by rw [e,nI] at hab;cases hab) h.sub
theorem Chg.put (h:Chg d T U ps met) {k v:By} (hk:k ∈ U):Chg d T U (putP ps k v) met where
 stay:=fun t ht=>by
  rw [je]
  split
  ·rfl
  ·exact h.stay t ht
 all:=fun p hp=>by
  rcases ow hp with rfl | hp
  ·exact hk
  ·exact h.all p hp
 sub:=h.sub
 srt:=h.srt
 got:=h.got
theorem Chg.del (h:Chg d T U ps met) {k:By} (hk:k ∉ T):Chg d T U (fD ps k) met where
 stay:=fun t ht=>by
  rw [lr,if_neg fun e:t=k=>hk (e ▸ ht)];exact h.stay t ht
 all:=fun p hp=>h.all p (ox hp).1
 sub:=h.sub
 srt:=h.srt
 got:=h.got
theorem Chg.next (h:Chg d T U ps met) (hs:qe ps) {p:Pr} (e:jL d ps met.getLast?=some p):Chg d T U ps (met ++ [p.1]):=by
 obtain ⟨h1,h2,h3⟩:=jK hs e;refine ⟨h.stay,h.all,fun k hk=>?_,?_,fun t ht=>?_⟩
 ·rcases List.mem_append.1 hk with hk | hk
  ·exact h.sub k hk
  ·rw [List.mem_singleton.1 hk];exact h.all p h1
 ·refine List.pairwise_append.2 ⟨h.srt,List.pairwise_singleton _ _,fun a ha b hb=>?_⟩;rw [List.mem_singleton.1 hb];have hl:∃ m,met.getLast?=some m:=Option.ne_none_iff_exists'.1 (by intro e;rw [List.getLast?_eq_none_iff.1 e] at ha;cases ha);obtain ⟨m,hm⟩:=hl;rw [hm] at h2;rcases List.eq_nil_or_concat met with e0 | ⟨l,x,e0⟩
  ·rw [e0] at ha;cases ha
  ·subst e0;rw [List.concat_eq_append] at *;rw [List.getLast?_append] at hm;injection hm with hm
   subst hm;rcases List.mem_append.1 ha with ha | ha
   ·exact rU ((List.pairwise_append.1 h.srt).2.2 a ha x (by simp)) h2
   ·rw [List.mem_singleton.1 ha];exact h2
 ·rw [List.getLast?_append];show t ∈ met ++ [p.1]∨qT d p.1 t=true;rcases h.got t ht with h4 | h4
  ·exact .inl (List.mem_append_left _ h4)
  ·obtain ⟨v,hv⟩:=kh (h.stay t ht);rcases h3 _ hv h4 with h5 | h5
   ·left;rw [← h5];simp
   ·exact .inr h5
theorem Chg.end (h:Chg d T U ps met) (e:jL d ps met.getLast?=none):∀ t ∈ T,t ∈ met:=fun t ht=>by
 rcases h.got t ht with h4 | h4
 ·exact h4
 ·obtain ⟨v,hv⟩:=kh (h.stay t ht);rw [rp e _ hv] at h4;cases h4
end
end Go.Proofs.YtknioodagnjchaaGreatDoor
