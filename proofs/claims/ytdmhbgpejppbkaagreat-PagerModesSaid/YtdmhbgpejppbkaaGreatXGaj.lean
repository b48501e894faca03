/- A cache's map: numbers to entries' blocks, as a list of pairs. Maps in memory as lists of pairs, whatever the keys and elements. A disk: plain; and in memory. disk: isName, begin, found. disk: found, Size, Down, Life, Read. Things in memory that lie apart from one another. -/
import Derived.Test.YtdmhbgpejppbkaaGreatXGai
import Derived.Test.YtdmhbgpejppbkaaGreatXGag
import Derived.Test.YtdmhbgpejppbkaaGreatXGad
import Derived.Maps.OwnSet
import Derived.Maps.OwnOps
import Derived.Maps.Views
set_option maxRecDepth 100000
set_option maxHeartbeats 2000000
namespace Go.Proofs.YtdmhbgpejppbkaaGreat
open Go.RowKit Go.Maps
def ga (v:Value):Option (DataW Unit × List MemPlace):=match v with
 | .pointer none=>some (.lit (.int .i64 (-1)),[])
 | .pointer (some ⟨b,0,none⟩)=>some (.lit (.int .i64 b),[])
 | _=>none
theorem pP {v:Value} {ps:List MemPlace} (h:ga v=some (.lit (.int .i64 (-1)),ps)):v=.pointer none:=by
 unfold ga at h
 split at h
 ·rfl
 ·simp only [Option.some.injEq,Prod.mk.injEq,DataW.lit.injEq,Lit.int.injEq,true_and] at h;omega
 ·cases h
theorem gJ {v:Value} {b:Nat} {ps:List MemPlace} (h:ga v=some (.lit (.int .i64 b),ps)):v=.pointer (some ⟨b,0,none⟩):=by
 unfold ga at h
 split at h
 ·simp only [Option.some.injEq,Prod.mk.injEq,DataW.lit.injEq,Lit.int.injEq,true_and] at h;omega
 ·simp only [Option.some.injEq,Prod.mk.injEq,DataW.lit.injEq,Lit.int.injEq,true_and] at h;have e:=Int.natCast_inj.1 h.1;subst e;rfl
 ·cases h
theorem vN {v:Value} {z:DataW Unit × List MemPlace} (h:ga v=some z):v=.pointer none∨∃ b,v=.pointer (some ⟨b,0,none⟩)∧z=(.lit (.int .i64 b),[]):=by
 unfold ga at h
 split at h
 ·exact .inl rfl
 ·cases h;exact .inr ⟨_,rfl,rfl⟩
 ·cases h
def gE (n:Int):Prop:=(Lit.int .i64 n).wf=true
abbrev cq (n:Int):Lit:=.int .i64 n
theorem bY:Keyed Tryz.prog 3:=int_keyed Tryz.underlying3
theorem dY {n:Int} (h:gE n):keyOf Tryz.prog 3 (.int .i64 n)=some (.int .i64 n):=keyOf_int_mk Tryz.underlying3 h
theorem sO (w:World):(zeroValue 123).run Tryz.prog w=.ok (.pointer none) w:=by kernel_rfl
structure MapOf (D:DataW Unit) (K:List (Int × Nat)):Prop where
 tidy:Tidy D
 nd:(K.map (·.1)).Nodup
 yes:∀ p ∈ K,∀ z,D.atKey (cq p.1) z=.lit (.int .i64 p.2)
 no:∀ n,n ∉ K.map (·.1)→has D (cq n)=false
 size:size D=K.length
theorem gR (n:Int):WideAt.IsKeyLit (cq n):=trivial
theorem MapOf.empty:MapOf (.map []) []:=⟨tidy_empty,List.Pairwise.nil,fun _ h=>absurd h List.not_mem_nil,fun _ _=>rfl,rfl⟩
theorem MapOf.put {D:DataW Unit} {K:List (Int × Nat)} (h:MapOf D K) {n:Int} (hn:n ∉ K.map (·.1)) (b:Nat):MapOf (D.put (cq n) (.lit (.int .i64 b))) (K ++ [(n,b)]):=by
 have hne:∀ m,m≠n→cq m≠cq n:=fun m hm e=>hm (by cases e;rfl)
 refine ⟨h.tidy.put (gR n) _,?_,fun p hp z=>?_,fun m hm=>?_,?_⟩
 ·rw [List.map_append,List.nodup_append];refine ⟨h.nd,by simp,fun a ha b hb e=>?_⟩;simp at hb;subst e hb;exact hn ha
 ·rcases List.mem_append.1 hp with hp | hp
  ·have:p.1≠n:=fun e=>hn (e ▸ List.mem_map.2 ⟨p,hp,rfl⟩)
   rw [atKey_put_other (hne _ this)];exact h.yes p hp z
  ·rw [List.mem_singleton.1 hp];exact atKey_put_same h.tidy.isMap (gR n) _ _
 ·rw [List.map_append,List.mem_append,not_or] at hm;rw [has_put_other (hne _ (by simpa using hm.2))];exact h.no m hm.1
 ·rw [size_put h.tidy,h.no n hn,if_neg (by simp),h.size,List.length_append];rfl
theorem MapOf.del {D:DataW Unit} {K1 K2:List (Int × Nat)} {n:Int} {b:Nat} (h:MapOf D (K1 ++ (n,b) :: K2)):MapOf (D.del (cq n)) (K1 ++ K2):=by
 have hne:∀ m,m≠n→cq m≠cq n:=fun m hm e=>hm (by cases e;rfl)
 have hnd:=h.nd;rw [List.map_append,List.map_cons,List.nodup_append] at hnd;obtain ⟨n1,n2,n3⟩:=hnd;rw [List.nodup_cons] at n2
 have hmem:∀ p ∈ K1 ++ K2,p.1≠n:=fun p hp e=>by
  rcases List.mem_append.1 hp with hp | hp
  ·exact n3 p.1 (List.mem_map.2 ⟨p,hp,rfl⟩) n (by simp) e
  ·exact n2.1 (e ▸ List.mem_map.2 ⟨p,hp,rfl⟩)
 refine ⟨h.tidy.del _,?_,fun p hp z=>?_,fun m hm=>?_,?_⟩
 ·rw [List.map_append,List.nodup_append];exact ⟨n1,n2.2,fun a ha b hb=>n3 a ha b (List.mem_cons_of_mem _ hb)⟩
 ·rw [atKey_del_other (hne _ (hmem p hp))];exact h.yes p (by rcases List.mem_append.1 hp with hp | hp <;> simp [hp]) z
 ·by_cases e:m=n
  ·subst e;exact has_del_same
  ·rw [has_del_other (hne _ e)];refine h.no m ?_;rw [List.map_append,List.mem_append,not_or] at hm;rw [List.map_append,List.map_cons,List.mem_append,List.mem_cons,not_or,not_or];exact ⟨hm.1,e,hm.2⟩
 ·have h1:=size_del (k:=cq n) h.tidy;rw [has_true_of_atKey (fun z=>h.yes (n,b) (by simp) z),if_pos rfl,h.size] at h1;simp only [List.length_append,List.length_cons] at h1 ⊢;omega
def MapIs (w:World) (gm:Nat) (K:List (Int × Nat)):Prop:=∃ D,w.ownsMap Tryz.prog 3 ga gm K.length D∧MapOf D K
section
variable {w w':World} {gm:Nat} {K:List (Int × Nat)}
theorem jD {P:Program} {k:TypeId} {R:Value→Option (DataW Unit × List MemPlace)} {b n m:Nat} {D:DataW Unit} (h:w.ownsMap P k R b n D) (hm:Maps.size D=m):w.ownsMap P k R b m D:=by obtain ⟨es,clock,hb,F,hs,rfl⟩:=h;exact ⟨es,clock,hb,F,by rw [← hm];simp [Maps.size,length_sorted],rfl⟩
theorem MapIs.made (w:World):MapIs (w.alloc (.map #[] 0)) w.heap.size []:=⟨_,World.ownsMap_made w _ _ _,MapOf.empty⟩
theorem MapIs.lt (h:MapIs w gm K):gm<w.heap.size:=let ⟨_,h,_⟩:=h;h.lt
theorem MapIs.nd (h:MapIs w gm K):(K.map (·.1)).Nodup:=let ⟨_,_,h⟩:=h;h.nd
theorem MapIs.block (h:MapIs w gm K) (hb:w'.heap[gm]?=w.heap[gm]?):MapIs w' gm K:=by obtain ⟨D,⟨es,clock,hh,F,hs,hD⟩,hm⟩:=h;exact ⟨D,⟨es,clock,hb.trans hh,F,hs,hD⟩,hm⟩
theorem MapIs.ch {S:Nat→Prop} (h:MapIs w gm K) (hc:Ch S w w') (hn:¬ S gm):MapIs w' gm K:=h.block (hc.block gm h.lt hn)
theorem MapIs.look_yes (h:MapIs w gm K) {n:Int} {b:Nat} (hw:gE n) (hp:(n,b) ∈ K):(Instr.lookup 124 (.map (some gm)) (.int .i64 n) false).run Tryz.prog w=.ok (.pointer (some ⟨b,0,none⟩)) w:=by obtain ⟨D,hown,hm⟩:=h;obtain ⟨v,ps,hrun,hv⟩:=hown.lookup bY Tryz.underlying124 (sO w) (zd:=.lit (.int .i64 (-1))) (zp:=[]) rfl (dY hw);rw [hm.yes _ hp] at hv;rw [hrun,gJ hv]
theorem MapIs.look_no (h:MapIs w gm K) {n:Int} (hw:gE n) (hp:n ∉ K.map (·.1)):(Instr.lookup 124 (.map (some gm)) (.int .i64 n) false).run Tryz.prog w=.ok (.pointer none) w:=by obtain ⟨D,hown,hm⟩:=h;obtain ⟨v,ps,hrun,hv⟩:=hown.lookup bY Tryz.underlying124 (sO w) (zd:=.lit (.int .i64 (-1))) (zp:=[]) rfl (dY hw);rw [atKey_of_not_has (hm.no _ hp)] at hv;rw [hrun,pP hv]
theorem MapIs.len (h:MapIs w gm K) (ty:TypeId):(Builtin.len_ #[124] ty #[.map (some gm)]).run Tryz.prog w=.ok (.int .i64 K.length) w:=by obtain ⟨D,hown,hm⟩:=h;rw [hown.len Tryz.underlying124,hm.size]
theorem MapIs.put (h:MapIs w gm K) {n:Int} (b:Nat) (hw:gE n) (hn:n ∉ K.map (·.1)) (hl:K.length<maxLen):
  ∃ w',(Instr.mapUpdate 124 (.map (some gm)) (.int .i64 n) (.pointer (some ⟨b,0,none⟩))).run Tryz.prog w=.ok () w'∧MapIs w' gm (K ++ [(n,b)])∧w.grownBy w' (some gm):=by
 obtain ⟨D,hown,hm⟩:=h;obtain ⟨w',hrun,hown',hg⟩:=hown.update bY Tryz.underlying124 hl (dY hw) (val:=.pointer (some ⟨b,0,none⟩)) (d:=.lit (.int .i64 b)) (ps:=[]) rfl;have hm':=hm.put hn b;exact ⟨w',hrun,⟨_,jD hown' hm'.size,hm'⟩,hg⟩
theorem MapIs.del {K1 K2:List (Int × Nat)} {n:Int} {b:Nat} (h:MapIs w gm (K1 ++ (n,b) :: K2)) (hw:gE n) (ty:TypeId):
  ∃ w',(Builtin.delete_ #[124,3] ty #[.map (some gm),.int .i64 n]).run Tryz.prog w=.ok (.tuple #[]) w'∧MapIs w' gm (K1 ++ K2)∧w.grownBy w' (some gm):=by
 obtain ⟨D,hown,hm⟩:=h;obtain ⟨w',hrun,hown',hg⟩:=hown.drop bY Tryz.underlying124 (dY hw) ty;have hm':=hm.del;exact ⟨w',hrun,⟨_,jD hown' hm'.size,hm'⟩,hg.grown⟩
end
end Go.Proofs.YtdmhbgpejppbkaaGreat
namespace Go.Proofs.YtdmhbgpejppbkaaGreat
open Go.RowKit Go.Maps
section
variable {α β:Type} [DecidableEq α]
def aC (K:List (α × β)) (a:α):Option β:=(K.find? (fun p=>decide (p.1=a))).map (·.2)
def aX (K:List (α × β)) (a:α) (b:β):List (α × β):=if a ∈ K.map (·.1) then K.map (fun p=>if p.1=a then (a,b) else p) else K ++ [(a,b)]
def cR (K:List (α × β)) (a:α):List (α × β):=K.filter fun p=>!decide (p.1=a)
variable {K:List (α × β)} {a a':α} {b:β}
theorem eu (h:a ∉ K.map (·.1)):aC K a=none:=by unfold aC;rw [Option.map_eq_none_iff,List.find?_eq_none];intro p hp;simp only [decide_eq_true_eq];exact fun e=>h (e ▸ List.mem_map.2 ⟨p,hp,rfl⟩)
theorem cH (h:aC K a=some b):(a,b) ∈ K:=by unfold aC at h;rw [Option.map_eq_some_iff] at h;obtain ⟨p,hp,rfl⟩:=h;have h1:=List.mem_of_find?_eq_some hp;have h2:=List.find?_some hp;simp only [decide_eq_true_eq] at h2;subst h2;exact h1
theorem ci (hn:(K.map (·.1)).Nodup) (h:(a,b) ∈ K):aC K a=some b:=by
 unfold aC
 induction K with
 | nil=>cases h
 | cons p K ih=>
   rw [List.map_cons,List.nodup_cons] at hn;rw [List.find?_cons];rcases List.mem_cons.1 h with e | h
   ·subst e;simp
   ·have:p.1≠a:=fun e=>hn.1 (e ▸ List.mem_map.2 ⟨_,h,rfl⟩)
    simp only [decide_eq_false this];exact ih hn.2 h
theorem bQ (hn:(K.map (·.1)).Nodup):aC K a=some b↔(a,b) ∈ K:=⟨cH,ci hn⟩
theorem jq:(aX K a b).map (·.1)=if a ∈ K.map (·.1) then K.map (·.1) else K.map (·.1) ++ [a]:=by
 unfold aX
 split
 ·rw [List.map_map];refine List.map_congr_left fun p hp=>?_
  simp only [Function.comp]
  split
  ·rename_i h;exact h.symm
  ·rfl
 ·simp
theorem cU (hn:(K.map (·.1)).Nodup):((aX K a b).map (·.1)).Nodup:=by
 rw [jq]
 split
 ·exact hn
 ·rename_i h
  rw [List.nodup_append];exact ⟨hn,by simp,fun x hx y hy e=>by simp only [List.mem_singleton] at hy;subst e hy;exact h hx⟩
theorem bP (hn:(K.map (·.1)).Nodup):aC (aX K a b) a'=if a'=a then some b else aC K a':=by
 have hn2:=cU (a:=a) (b:=b) hn;by_cases e:a'=a
 ·subst e;rw [if_pos rfl,bQ hn2];unfold aX
  split
  ·rename_i h
   obtain ⟨p,hp,e⟩:=List.mem_map.1 h;exact List.mem_map.2 ⟨p,hp,by rw [if_pos e]⟩
  ·simp
 ·rw [if_neg e];apply Option.ext;intro c;rw [bQ hn2,bQ hn];unfold aX
  split
  ·rw [List.mem_map];constructor
   ·rintro ⟨p,hp,h2⟩
    split at h2
    ·injection h2 with h2 _;exact absurd h2.symm e
    ·exact h2 ▸ hp
   ·intro h;exact ⟨_,h,by rw [if_neg (show ¬ (a',c).1=a from e)]⟩
  ·rw [List.mem_append,List.mem_singleton];exact ⟨fun h=>h.resolve_right (fun h=>e (by injection h)),.inl⟩
theorem kx (hn:(K.map (·.1)).Nodup):((cR K a).map (·.1)).Nodup:=hn.sublist (List.Sublist.map _ List.filter_sublist)
theorem qD (hn:(K.map (·.1)).Nodup):aC (cR K a) a'=if a'=a then none else aC K a':=by
 have hn2:=kx (a:=a) hn;by_cases e:a'=a
 ·rw [if_pos e];refine eu fun h=>?_
  obtain ⟨p,hp,e2⟩:=List.mem_map.1 h;have:=(List.mem_filter.1 hp).2;simp only [Bool.not_eq_true',decide_eq_false_iff_not] at this;exact this (e2.trans e)
 ·rw [if_neg e];apply Option.ext;intro c;rw [bQ hn2,bQ hn];unfold cR;rw [List.mem_filter];simp only [Bool.not_eq_true',decide_eq_false_iff_not];exact ⟨fun h=>h.1,fun h=>⟨h,e⟩⟩
theorem cC:(aC K a).isSome=decide (a ∈ K.map (·.1)):=by unfold aC;rw [Option.isSome_map];rw [Bool.eq_iff_iff,List.find?_isSome,decide_eq_true_eq,List.mem_map];simp only [decide_eq_true_eq]
theorem cy {p:α × β} (h:p ∈ aX K a b):p=(a,b)∨p ∈ K:=by
 unfold aX at h
 split at h
 ·obtain ⟨q,hq,rfl⟩:=List.mem_map.1 h
  split
  ·exact .inl rfl
  ·exact .inr hq
 ·rcases List.mem_append.1 h with h | h
  ·exact .inr h
  ·exact .inl (List.mem_singleton.1 h)
theorem eR:(aX K a b).length≤K.length+1:=by
 unfold aX
 split
 ·simp
 ·simp
end
structure MpT {α β:Type} (ok:α→Prop) (mt kt vt:TypeId) (kl:α→Lit) (kv:α→Value) (vd:β→DataW Unit) (vv:β→Value) (z:Value) (R:Value→Option (DataW Unit × List MemPlace)):Prop where
 law:Keyed Tryz.prog kt
 und:Tryz.prog.underlying mt=some (.map kt vt)
 key:∀ a,ok a→keyOf Tryz.prog kt (kv a)=some (kl a)
 inj:∀ a b,kl a=kl b→a=b
 lit:∀ a,WideAt.IsKeyLit (kl a)
 rel:∀ b,R (vv b)=some (vd b,[])
 inv:∀ v b ps,R v=some (vd b,ps)→v=vv b
 zero:∀ w,(zeroValue vt).run Tryz.prog w=.ok z w
 zrel:∃ zd,R z=some (zd,[])∧∀ v ps,R v=some (zd,ps)→v=z
structure MpOf {α β:Type} (kl:α→Lit) (vd:β→DataW Unit) (D:DataW Unit) (K:List (α × β)):Prop where
 tidy:Tidy D
 nd:(K.map (·.1)).Nodup
 yes:∀ p ∈ K,∀ z,D.atKey (kl p.1) z=vd p.2
 no:∀ k,(∀ p ∈ K,k≠kl p.1)→has D k=false
 size:size D=K.length
section
variable {α β:Type} {ok:α→Prop} {mt kt vt:TypeId} {kl:α→Lit} {kv:α→Value} {vd:β→DataW Unit} {vv:β→Value} {z:Value} {R:Value→Option (DataW Unit × List MemPlace)} {D:DataW Unit} {K:List (α × β)}
theorem MpOf.empty:MpOf kl vd (.map []) ([]:List (α × β)):=⟨tidy_empty,List.Pairwise.nil,fun _ h=>absurd h List.not_mem_nil,fun _ _=>rfl,rfl⟩
def MpIs (kt:TypeId) (R:Value→Option (DataW Unit × List MemPlace)) (kl:α→Lit) (vd:β→DataW Unit) (w:World) (gm:Nat) (K:List (α × β)):Prop:=∃ D,w.ownsMap Tryz.prog kt R gm K.length D∧MpOf kl vd D K
variable {w w':World} {gm:Nat}
theorem il {P:Program} {k:TypeId} {b n m:Nat} (h:w.ownsMap P k R b n D) (hm:Maps.size D=m):w.ownsMap P k R b m D:=by obtain ⟨es,clock,hb,F,hs,rfl⟩:=h;exact ⟨es,clock,hb,F,by rw [← hm];simp [Maps.size,length_sorted],rfl⟩
theorem MpIs.made (w:World):MpIs kt R kl vd (w.alloc (.map #[] 0)) w.heap.size ([]:List (α × β)):=⟨_,World.ownsMap_made w _ _ _,MpOf.empty⟩
theorem MpIs.lt (h:MpIs kt R kl vd w gm K):gm<w.heap.size:=let ⟨_,h,_⟩:=h;h.lt
theorem MpIs.nd (h:MpIs kt R kl vd w gm K):(K.map (·.1)).Nodup:=let ⟨_,_,h⟩:=h;h.nd
theorem MpIs.block (h:MpIs kt R kl vd w gm K) (hb:w'.heap[gm]?=w.heap[gm]?):MpIs kt R kl vd w' gm K:=by obtain ⟨D,⟨es,clock,hh,F,hs,hD⟩,hm⟩:=h;exact ⟨D,⟨es,clock,hb.trans hh,F,hs,hD⟩,hm⟩
theorem MpIs.ch {S:Nat→Prop} (h:MpIs kt R kl vd w gm K) (hc:Ch S w w') (hn:¬ S gm):MpIs kt R kl vd w' gm K:=h.block (hc.block gm h.lt hn)
theorem MpIs.len (T:MpT ok mt kt vt kl kv vd vv z R) (h:MpIs kt R kl vd w gm K) (ty:TypeId):(Builtin.len_ #[mt] ty #[.map (some gm)]).run Tryz.prog w=.ok (.int .i64 K.length) w:=by obtain ⟨D,hown,hm⟩:=h;rw [hown.len T.und,hm.size]
variable [DecidableEq α]
theorem MpOf.put (T:MpT ok mt kt vt kl kv vd vv z R) (h:MpOf kl vd D K) (a:α) (b:β):MpOf kl vd (D.put (kl a) (vd b)) (aX K a b):=by
 refine ⟨h.tidy.put (T.lit a) _,cU h.nd,fun p hp z=>?_,fun k hk=>?_,?_⟩
 ·by_cases e:p.1=a
  ·have:p.2=b:=by
    have h1:=(bQ (cU (a:=a) (b:=b) h.nd)).2 (show (p.1,p.2) ∈ _ from hp);rw [bP h.nd,if_pos e] at h1;injection h1 with h1
    exact h1.symm
   rw [e,this];exact atKey_put_same h.tidy.isMap (T.lit a) _ _
  ·rw [atKey_put_other (fun e2=>e (T.inj _ _ e2))];exact h.yes p ((cy hp).resolve_left (fun e2=>e (by rw [e2]))) z
 ·have hka:k≠kl a:=by have:(a,b) ∈ aX K a b:=(bQ (cU h.nd)).1 (by rw [bP h.nd,if_pos rfl]);exact hk _ this
  rw [has_put_other hka];refine h.no k fun p hp e=>?_
  by_cases e2:p.1=a
  ·exact hka (e.trans (by rw [e2]))
  ·have:aC (aX K a b) p.1=some p.2:=by rw [bP h.nd,if_neg e2];exact (bQ h.nd).2 hp
   exact hk _ ((bQ (cU h.nd)).1 this) e
 ·rw [size_put h.tidy];unfold aX;by_cases e:a ∈ K.map (·.1)
  ·obtain ⟨p,hp,rfl⟩:=List.mem_map.1 e;rw [has_true_of_atKey (fun z=>h.yes p hp z),if_pos rfl,if_pos e,List.length_map,h.size]
  ·rw [h.no (kl a) (fun p hp e2=>e (List.mem_map.2 ⟨p,hp,(T.inj _ _ e2).symm⟩)),if_neg (by simp),if_neg e,h.size,List.length_append];rfl
theorem lW {K:List (α × β)} (hn:(K.map (·.1)).Nodup) {a:α} {b:β} (hb:(a,b) ∈ K):(cR K a).length+1=K.length:=by
 induction K with
 | nil=>cases hb
 | cons p K ih=>
   rw [List.map_cons,List.nodup_cons] at hn;unfold cR;rw [List.filter_cons];rcases List.mem_cons.1 hb with e | hb
   ·subst e;simp only [decide_true,Bool.not_true,Bool.false_eq_true,if_false,List.length_cons];rw [List.filter_eq_self.2 fun q hq=>?_];simp only [Bool.not_eq_true',decide_eq_false_iff_not];exact fun e=>hn.1 (e ▸ List.mem_map.2 ⟨q,hq,rfl⟩)
   ·have:p.1≠a:=fun e=>hn.1 (e ▸ List.mem_map.2 ⟨_,hb,rfl⟩)
    rw [decide_eq_false this];simp only [Bool.not_false,if_true,List.length_cons];have:=ih hn.2 hb;unfold cR at this;omega
theorem jQ {K:List (α × β)} {a:α} (h:a ∉ K.map (·.1)):cR K a=K:=List.filter_eq_self.2 fun p hp=>by
 simp only [Bool.not_eq_true',decide_eq_false_iff_not];exact fun e=>h (e ▸ List.mem_map.2 ⟨p,hp,rfl⟩)
theorem MpOf.del (T:MpT ok mt kt vt kl kv vd vv z R) (h:MpOf kl vd D K) (a:α):MpOf kl vd (D.del (kl a)) (cR K a):=by
 refine ⟨h.tidy.del _,kx h.nd,fun p hp z=>?_,fun k hk=>?_,?_⟩
 ·have hp':=List.mem_filter.1 hp;have e:p.1≠a:=by simpa using hp'.2
  rw [atKey_del_other (fun e2=>e (T.inj _ _ e2))];exact h.yes p hp'.1 z
 ·by_cases e:k=kl a
  ·subst e;exact has_del_same
  ·rw [has_del_other e];refine h.no k fun p hp e2=>?_
   refine hk p (List.mem_filter.2 ⟨hp,?_⟩) e2;simp only [Bool.not_eq_true',decide_eq_false_iff_not];exact fun e3=>e (e2.trans (by rw [e3]))
 ·have h1:=size_del (k:=kl a) h.tidy;by_cases e:a ∈ K.map (·.1)
  ·obtain ⟨p,hp,rfl⟩:=List.mem_map.1 e;rw [has_true_of_atKey (fun z=>h.yes p hp z),if_pos rfl,h.size] at h1;have:=lW h.nd (show (p.1,p.2) ∈ K from hp);omega
  ·rw [h.no (kl a) (fun p hp e2=>e (List.mem_map.2 ⟨p,hp,(T.inj _ _ e2).symm⟩)),if_neg (by simp),h.size] at h1;rw [jQ e];omega
theorem MpOf.has (T:MpT ok mt kt vt kl kv vd vv z R) (h:MpOf kl vd D K) (a:α):has D (kl a)=(aC K a).isSome:=by
 rw [cC];by_cases e:a ∈ K.map (·.1)
 ·obtain ⟨p,hp,rfl⟩:=List.mem_map.1 e;rw [has_true_of_atKey (fun z=>h.yes p hp z),decide_eq_true e]
 ·rw [h.no (kl a) (fun p hp e2=>e (List.mem_map.2 ⟨p,hp,(T.inj _ _ e2).symm⟩)),decide_eq_false e]
def qg (vv:β→Value) (z:Value):Option β→Value
 | some b=>vv b
 | none=>z
theorem MpIs.look (T:MpT ok mt kt vt kl kv vd vv z R) (h:MpIs kt R kl vd w gm K) {a:α} (ha:ok a):(Instr.lookup mt (.map (some gm)) (kv a) false).run Tryz.prog w=.ok (qg vv z (aC K a)) w:=by
 obtain ⟨D,hown,hm⟩:=h;obtain ⟨zd,hz1,hz2⟩:=T.zrel;obtain ⟨v,ps,hrun,hv⟩:=hown.lookup T.law T.und (T.zero w) hz1 (T.key a ha);have:v=qg vv z (aC K a):=by
  cases hg:aC K a with
  | some b=> rw [hm.yes (a,b) (cH hg)] at hv;exact T.inv v b ps hv
  | none=> have hh:=hm.has T a;rw [hg] at hh;rw [atKey_of_not_has hh] at hv;exact hz2 v ps hv
 rw [hrun,this]
theorem MpIs.look2 (T:MpT ok mt kt vt kl kv vd vv z R) (h:MpIs kt R kl vd w gm K) {a:α} (ha:ok a):(Instr.lookup mt (.map (some gm)) (kv a) true).run Tryz.prog w=.ok (.tuple #[qg vv z (aC K a),.bool (aC K a).isSome]) w:=by
 obtain ⟨D,hown,hm⟩:=h;obtain ⟨zd,hz1,hz2⟩:=T.zrel;obtain ⟨v,ps,hrun,hv⟩:=hown.look_ok T.law T.und (T.zero w) hz1 (T.key a ha);rw [hrun,hm.has T a];have:v=qg vv z (aC K a):=by
  cases hg:aC K a with
  | some b=> rw [hm.yes (a,b) (cH hg)] at hv;exact T.inv v b ps hv
  | none=> have hh:=hm.has T a;rw [hg] at hh;rw [atKey_of_not_has hh] at hv;exact hz2 v ps hv
 rw [this]
theorem MpIs.set (T:MpT ok mt kt vt kl kv vd vv z R) (h:MpIs kt R kl vd w gm K) {a:α} (ha:ok a) (b:β) (hl:K.length<maxLen):
  ∃ w',(Instr.mapUpdate mt (.map (some gm)) (kv a) (vv b)).run Tryz.prog w=.ok () w'∧MpIs kt R kl vd w' gm (aX K a b)∧w.grownBy w' (some gm):=by
 obtain ⟨D,hown,hm⟩:=h;obtain ⟨w',hrun,hown',hg⟩:=hown.update T.law T.und hl (T.key a ha) (T.rel b);have hm':=hm.put T a b;exact ⟨w',hrun,⟨_,il hown' hm'.size,hm'⟩,hg⟩
theorem MpIs.del (T:MpT ok mt kt vt kl kv vd vv z R) (h:MpIs kt R kl vd w gm K) {a:α} (ha:ok a) (ty:TypeId):
  ∃ w',(Builtin.delete_ #[mt,kt] ty #[.map (some gm),kv a]).run Tryz.prog w=.ok (.tuple #[]) w'∧MpIs kt R kl vd w' gm (cR K a)∧w.grownBy w' (some gm):=by
 obtain ⟨D,hown,hm⟩:=h;obtain ⟨w',hrun,hown',hg⟩:=hown.drop T.law T.und (T.key a ha) ty;have hm':=hm.del T a;exact ⟨w',hrun,⟨_,il hown' hm'.size,hm'⟩,hg.grown⟩
end
end Go.Proofs.YtdmhbgpejppbkaaGreat
namespace Go.Proofs.YtdmhbgpejppbkaaGreat
open Go.RowKit Go.Maps
abbrev By:=List UInt8
structure Fi where
 now:List By
 safe:List (Option By)
 waits:List Bool
 sure:Bool
def Fi.empty:Fi:=⟨[],[],[],false⟩
structure Dk where
 files:List (By × Fi)
 room:Int
 down:Bool
 life:Int
 at_:Int
 kind:Int
 more:Int
structure Fi.Ok (f:Fi):Prop where
 ls:f.safe.length=f.now.length
 lw:f.waits.length=f.now.length
 sec:∀ s ∈ f.now,s.length=256
 n:f.now.length≤100000
 ssec:∀ s,some s ∈ f.safe→s.length=256
structure Dk.Ok (d:Dk):Prop where
 nd:(d.files.map (·.1)).Nodup
 few:d.files.length≤8
 fok:∀ p ∈ d.files,p.2.Ok
 room:0≤d.room∧d.room≤16384
 life:0≤d.life∧d.life≤1000000
 at_:0≤d.at_∧d.at_≤1000000
 kind:d.kind≠2
 more:d.more≤1000000
def Dk.file (d:Dk) (n:By):Option Fi:=aC d.files n
def Dk.size (d:Dk) (n:By):Int:=match d.file n with | none=>-1 | some f=>f.now.length
def Dk.total (d:Dk):Nat:=(d.files.map fun p=>p.2.now.length).sum
def cW (n:By):Bool:=!n.isEmpty && decide (n.length≤16)
def iw (d:Dk) (n:By) (r:Bool):Int:=if !cW n || !r then 1 else if d.down then 10 else if d.at_=0∨1<d.at_ then 0 else 11
def dT (d:Dk) (n:By) (r:Bool):Dk:=if !cW n || !r then d else if d.down then d else if d.at_=0 then d else if 1<d.at_ then { d with at_:=d.at_ - 1 } else if 0<d.more then { d with more:=d.more - 1 } else { d with at_:=0 }
def dQ (d:Dk) (n:By) (r:Bool):Int:=if iw d n r≠0 then iw d n r else if (d.file n).isSome then 0 else 14
def sY (d:Dk) (n:By) (i:Int):Int:=if dQ d n true≠0 then dQ d n true else if 0≤i∧i<d.size n then 0 else 14
def Dk.sec (d:Dk) (n:By) (i:Int):By:=match d.file n with | none=>[] | some f=>f.now.getD i.toNat []
def yj (d:Dk) (n:By) (i:Int):By:=if sY d n i=0 then d.sec n i else []
def Fi.put (f:Fi) (i:Nat) (s:By):Fi:=if i=f.now.length then ⟨f.now ++ [s],f.safe ++ [none],f.waits ++ [true],f.sure⟩ else ⟨f.now.set i s,f.safe,f.waits.set i true,f.sure⟩
def wrE (d:Dk) (n:By) (i:Int) (s:By):Int:=
 if dQ d n (decide (0≤i) && decide (s.length=256))≠0∧(dQ d n (decide (0≤i) && decide (s.length=256))≠14∨0<i) then dQ d n (decide (0≤i) && decide (s.length=256))
 else if ((d.file n).getD .empty).now.length<i then 14
 else if dQ d n (decide (0≤i) && decide (s.length=256))=14∧8≤d.files.length then 12
 else if i=((d.file n).getD .empty).now.length∧d.room≤d.total then 12 else 0
def wrS (d:Dk) (n:By) (i:Int) (s:By):Dk:=if wrE d n i s=0 then { dT d n true with files:=aX d.files n (((d.file n).getD .empty).put i.toNat s) } else dT d n (decide (0≤i) && decide (s.length=256))
def Fi.settle (f:Fi):Fi:=⟨f.now,f.now.map some,List.replicate f.now.length false,true⟩
def Fi.cut (f:Fi) (k:Nat):Fi:=⟨f.now.take k,f.safe.take k,f.waits.take k,true⟩
def Dk.setF (d:Dk) (n:By) (g:Fi→Fi):Dk:={ d with files:=aX d.files n (g ((d.file n).getD .empty)) }
def xI (d:Dk) (n:By):Dk:=if dQ d n true=0 then (dT d n true).setF n Fi.settle else dT d n true
def tC (d:Dk) (n:By) (k:Int):Int:=if dQ d n (decide (0≤k))≠0 then dQ d n (decide (0≤k)) else if d.size n<k then 14 else 0
def xN (d:Dk) (n:By) (k:Int):Dk:=if tC d n k=0 then (dT d n true).setF n (·.cut k.toNat) else dT d n (decide (0≤k))
def Ax (d:Dk) (n:By):Dk:=if dQ d n true=0 then { dT d n true with files:=cR d.files n } else dT d n true
def Dk.off (d:Dk):Dk:={ d with life:=if d.down then d.life else d.life+1,down:=true,at_:=0 }
def Dk.new (r:Int):Dk:=⟨[],min (max r 0) 16384,false,0,0,0,0⟩
theorem dH (d:Dk) (n:By) (r:Bool):(dT d n r).files=d.files:=by unfold dT;(repeat' split) <;> rfl
theorem bT (d:Dk) (n:By) (r:Bool) (m:By):(dT d n r).file m=d.file m:=by unfold Dk.file;rw [dH]
theorem wZ (d:Dk) (n:By) (r:Bool):(dT d n r).room=d.room:=by unfold dT;(repeat' split) <;> rfl
theorem oZ {d:Dk} (h:d.Ok) (n:By) (r:Bool):(dT d n r).Ok:=by
 have h1:=h.at_;have h2:=h.more;unfold dT
 repeat' split
 ·exact h
 ·exact h
 ·exact h
 ·exact ⟨h.nd,h.few,h.fok,h.room,h.life,by simp only;omega,h.kind,h.more⟩
 ·exact ⟨h.nd,h.few,h.fok,h.room,h.life,h.at_,h.kind,by simp only;omega⟩
 ·exact ⟨h.nd,h.few,h.fok,h.room,h.life,by simp only;omega,h.kind,h.more⟩
def mq (p:Option Nat):Value:=.pointer (p.map fun g=>⟨g,0,none⟩)
def pC (p:Option Nat):List Value:=[mq p]
def bC (b:Bool):List Value:=[.bool b]
theorem cJ (p:Option Nat):(pC p).length=1:=rfl
theorem gC (p:Bool):(bC p).length=1:=rfl
theorem Af:(Tryz.prog.info? 98).map (fun i=>(i.zero,i.size,i.bytes))=some (some (.pointer none),1,8):=by kernel_rfl
theorem BA:(Tryz.prog.info? 4).map (fun i=>(i.zero,i.size,i.bytes))=some (some (.bool false),1,1):=by kernel_rfl
theorem Au:ElemT Tryz.prog 84 98 pC 1 8:=ElemT.mk' (z:=.pointer none) Tryz.underlying84 Af rfl (by decide) cJ (fun x u hu=>by
 rw [pC,List.mem_singleton] at hu;rw [hu];unfold mq;cases x <;> rfl)
theorem elB:ElemT Tryz.prog 85 4 bC 1 1:=ElemT.mk' (z:=.bool false) Tryz.underlying85 BA rfl (by decide) gC (fun x u hu=>by
 rw [bC,List.mem_singleton] at hu;rw [hu];rfl)
def fk (l:By):Obj:=.cells #[.string (aj l),.bool false] 101 (0,0)
structure FilM where
 vn:Value
 vs:Value
 vw:Value
 ps:List Nat
 qs:List (Option Nat)
def FilM.own (g:Nat) (m:FilM) (k:Nat):Prop:=k=g∨m.vn.ownBlock=some k∨m.vs.ownBlock=some k∨m.vw.ownBlock=some k
def wW (m:FilM) (sure:Bool):Obj:=.cells #[m.vn,m.vs,m.vw,.bool sure] 87 (0,0)
structure FilIs (w:World) (C:Nat→Prop) (E:Nat→By) (g:Nat) (m:FilM) (f:Fi):Prop where
 blk:w.heap[g]?=some (wW m f.sure)
 on:Own pC 1 98 0 w m.vn (m.ps.map some)
 os:Own pC 1 98 0 w m.vs m.qs
 ow:Own bC 1 4 0 w m.vw f.waits
 now:f.now=m.ps.map E
 safe:f.safe=m.qs.map (Option.map E)
 pc:∀ p ∈ m.ps,C p
 qc:∀ p,some p ∈ m.qs→C p
 g1:m.vn.ownBlock≠some g
 g2:m.vs.ownBlock≠some g
 g3:m.vw.ownBlock≠some g
 d12:Dis m.vn m.vs
 d13:Dis m.vn m.vw
 d23:Dis m.vs m.vw
theorem FilIs.lt {w:World} {C:Nat→Prop} {E:Nat→By} {g:Nat} {m:FilM} {f:Fi} (h:FilIs w C E g m f) {k:Nat} (hk:m.own g k):k<w.heap.size:=by
 rcases hk with rfl | hk | hk | hk
 ·exact ab h.blk
 ·exact (h.on.lt k hk).2
 ·exact (h.os.lt k hk).2
 ·exact (h.ow.lt k hk).2
theorem FilIs.ch {S:Nat→Prop} {w w':World} {C:Nat→Prop} {E:Nat→By} {g:Nat} {m:FilM} {f:Fi} (h:FilIs w C E g m f) (hc:Ch S w w') (hn:∀ k,m.own g k→¬ S k):FilIs w' C E g m f:=
 { h with
   blk:=hc.keep h.blk (hn g (.inl rfl))
   on:=h.on.ch hc fun k hk=>hn k (.inr (.inl hk))
   os:=h.os.ch hc fun k hk=>hn k (.inr (.inr (.inl hk)))
   ow:=h.ow.ch hc fun k hk=>hn k (.inr (.inr (.inr hk))) }
theorem FilIs.more {w:World} {C C':Nat→Prop} {E E':Nat→By} {g:Nat} {m:FilM} {f:Fi} (h:FilIs w C E g m f) (hc:∀ k,C k→C' k) (he:∀ k,C k→E' k=E k):FilIs w C' E' g m f:=
 { h with
   now:=by rw [h.now];exact List.map_congr_left fun p hp=>(he p (h.pc p hp)).symm
   safe:=by
    rw [h.safe];refine List.map_congr_left fun q hq=>?_
    cases q with
    | none=>rfl
    | some p=>exact congrArg some (he p (h.qc p hq)).symm
   pc:=fun p hp=>hc p (h.pc p hp)
   qc:=fun p hp=>hc p (h.qc p hp) }
def oL (n:By):Lit:=.string n
def cZ (n:By):Value:=.string (aj n)
def AO (g:Nat):DataW Unit:=.lit (.int .i64 g)
def ai (g:Nat):Value:=.pointer (some ⟨g,0,none⟩)
theorem fmT:MpT (fun n:By=>n.length≤1000) 67 9 82 oL cZ AO ai (.pointer none) ga where
 law:=string_keyed Tryz.underlying9
 und:=Tryz.underlying67
 key:=fun a ha=>by
  exact WideMaps.keyOf_string_mk Tryz.underlying9 (s:=aj a) (by rw [aw];unfold maxLen;omega)
 inj:=fun a b h=>by injection h
 lit:=fun _=>trivial
 rel:=fun b=>rfl
 inv:=fun v b ps h=>gJ h
 zero:=fun w=>by kernel_rfl
 zrel:=⟨_,rfl,fun v ps h=>pP h⟩
structure DkM where
 gd:Nat
 gm:Nat
 K:List (By × Nat)
 C:Nat→Prop
 E:Nat→By
 M:Nat→FilM
def DkM.F (L:DkM) (k:Nat):Prop:=k=L.gd∨k=L.gm∨L.C k∨∃ p ∈ L.K,(L.M p.2).own p.2 k
def yU (gm:Nat) (d:Dk) (ops:Int):Obj:=.cells #[.map (some gm),.int .i64 d.room,.bool d.down,.int .i64 ops,.int .i64 d.life,.int .i64 d.at_,.int .i64 d.kind,.int .i64 d.more] 69 (0,0)
abbrev pk (w:World) (gm:Nat) (K:List (By × Nat)):Prop:=MpIs 9 ga oL AO w gm K
structure DkIs (w:World) (L:DkM) (d:Dk):Prop where
 ok:d.Ok
 blk:∃ ops,w.heap[L.gd]?=some (yU L.gm d ops)
 map:pk w L.gm L.K
 cel:∀ k,L.C k→w.heap[k]?=some (fk (L.E k))
 fil:∀ p ∈ L.K,∃ f,d.file p.1=some f∧FilIs w L.C L.E p.2 (L.M p.2) f
 fls:d.files.map (·.1)=L.K.map (·.1)
 nm:L.gm≠L.gd
 cd:¬ L.C L.gd∧¬ L.C L.gm
 fd:∀ p ∈ L.K,∀ k,(L.M p.2).own p.2 k→k≠L.gd∧k≠L.gm∧¬ L.C k
 ff:∀ p ∈ L.K,∀ q ∈ L.K,p≠q→∀ k,(L.M p.2).own p.2 k→¬ (L.M q.2).own q.2 k
section
variable {w w':World} {L:DkM} {d:Dk}
theorem DkIs.lt (h:DkIs w L d) {k:Nat} (hk:L.F k):k<w.heap.size:=by
 rcases hk with rfl | rfl | hk | ⟨p,hp,hk⟩
 ·obtain ⟨_,hb⟩:=h.blk;exact ab hb
 ·exact h.map.lt
 ·exact ab (h.cel k hk)
 ·obtain ⟨f,-,hf⟩:=h.fil p hp;exact hf.lt hk
theorem DkIs.ch {S:Nat→Prop} (h:DkIs w L d) (hc:Ch S w w') (hn:∀ k,L.F k→¬ S k):DkIs w' L d:=
 { h with
   blk:=let ⟨o,hb⟩:=h.blk;⟨o,hc.keep hb (hn _ (.inl rfl))⟩
   map:=h.map.ch hc (hn _ (.inr (.inl rfl)))
   cel:=fun k hk=>hc.keep (h.cel k hk) (hn k (.inr (.inr (.inl hk))))
   fil:=fun p hp=>let ⟨f,h1,h2⟩:=h.fil p hp;⟨f,h1,h2.ch hc fun k hk=>hn k (.inr (.inr (.inr ⟨p,hp,hk⟩)))⟩ }
theorem DkIs.blk' (h:DkIs w L d) {d':Dk} {ops:Int} (hc:Ch (fun k=>k=L.gd) w w') (hb:w'.heap[L.gd]?=some (yU L.gm d' ops)) (hd:d'.files=d.files) (hok:d'.Ok):DkIs w' L d' where
 ok:=hok
 blk:=⟨ops,hb⟩
 map:=h.map.ch hc h.nm
 cel:=fun k hk=>hc.keep (h.cel k hk) (fun e=>h.cd.1 (e ▸ hk))
 fil:=fun p hp=>let ⟨f,h1,h2⟩:=h.fil p hp;⟨f,by unfold Dk.file at *;rw [hd];exact h1,h2.ch hc fun k hk e=>(h.fd p hp k hk).1 e⟩
 fls:=by rw [hd];exact h.fls
 nm:=h.nm
 cd:=h.cd
 fd:=h.fd
 ff:=h.ff
theorem DkIs.fno (h:DkIs w L d) {n:By} (hn:d.file n=none):aC L.K n=none:=by
 refine eu fun hm=>?_
 rw [← h.fls] at hm;obtain ⟨p,hp,rfl⟩:=List.mem_map.1 hm;have:=ci h.ok.nd (show (p.1,p.2) ∈ d.files from hp);unfold Dk.file at hn;rw [hn] at this;cases this
theorem DkIs.fso (h:DkIs w L d) {n:By} {f:Fi} (hn:d.file n=some f):∃ g,aC L.K n=some g∧(n,g) ∈ L.K∧FilIs w L.C L.E g (L.M g) f:=by
 have h1:=cH hn;have:n ∈ L.K.map (·.1):=by rw [← h.fls];exact List.mem_map.2 ⟨_,h1,rfl⟩
 obtain ⟨p,hp,rfl⟩:=List.mem_map.1 this;obtain ⟨f',h2,h3⟩:=h.fil p hp;rw [hn] at h2;injection h2 with h2
 subst h2;exact ⟨p.2,ci h.map.nd hp,hp,h3⟩
end
def DkV (w:World) (F:Nat→Prop) (v:Value) (d:Dk):Prop:=∃ L,v=.pointer (some ⟨L.gd,0,none⟩)∧DkIs w L d∧∀ k,L.F k→F k
theorem DkV.ch {S F:Nat→Prop} {w w':World} {v:Value} {d:Dk} (h:DkV w F v d) (hc:Ch S w w') (hn:∀ k,F k→¬ S k):DkV w' F v d:=
 let ⟨L,h1,h2,h3⟩:=h;⟨L,h1,h2.ch hc fun k hk=>hn k (h3 k hk),h3⟩
end Go.Proofs.YtdmhbgpejppbkaaGreat
namespace Go.Proofs.YtdmhbgpejppbkaaGreat
open Go.Lib (hid)
open Go.RowKit Go.Maps
theorem lh (l:By):(aj l).toList=l:=by unfold aj;simp [ByteArray.toList_eq]
theorem Cd:(⟨#[]⟩:ByteArray).toList=[]:=lh []
theorem sn (n:By) (w:World):Calls Tryz.prog 81 #[cZ n] w fun e w'=>e=.returned (.bool (cW n))∧w=w':=by
 unfold cZ;have hs:(aj n).size=n.length:=aw n;have hl:=lh n;have hg:cW n=(!n.isEmpty && decide ((n.length:Int)≤16)):=by unfold cW;congr 1;exact decide_eq_decide.2 (by omega)
 have HG:=hid hg;clear hg;go_enter Tryz.func81,Tryz.ntmps81;cases n with
 | nil=> go_wp2_with fail;simp only [hl] at *;go_ret;exact ⟨by rw [HG.out];rfl,rfl⟩
 | cons a l=>
   have h0:((aj (a :: l)).toList == (⟨#[]⟩:ByteArray).toList)=false:=by rw [hl,Cd];rfl
   go_wp2_with fail;go_ret;exact ⟨by rw [HG.out,show ((a :: l).length:Int)=(l.length:Int)+1 by simp];rfl,rfl⟩
theorem bH {w:World} {g gm:Nat} {d:Dk} {ops:Int} (h:w.heap[g]?=some (yU gm d ops)):
  w.cell? ⟨g,0,none⟩=some (.map (some gm))∧w.cell? ⟨g,1,none⟩=some (.int .i64 d.room)∧w.cell? ⟨g,2,none⟩=some (.bool d.down)∧w.cell? ⟨g,3,none⟩=some (.int .i64 ops)∧w.cell? ⟨g,4,none⟩=some (.int .i64 d.life)∧
  w.cell? ⟨g,5,none⟩=some (.int .i64 d.at_)∧w.cell? ⟨g,6,none⟩=some (.int .i64 d.kind)∧w.cell? ⟨g,7,none⟩=some (.int .i64 d.more)∧g<w.heap.size∧∀ i,w.frozen? ⟨g,i,none⟩=false:=
 ⟨aa h 0,aa h 1,aa h 2,aa h 3,aa h 4,aa h 5,aa h 6,aa h 7,ab h,ah h⟩
theorem vk (n:By) (r:Bool) (w:World) {L:DkM} {d:Dk} (h:DkIs w L d):
  Calls Tryz.prog 217 #[.pointer (some ⟨L.gd,0,none⟩),cZ n,.bool r] w fun e w'=>e=.returned (.int .i64 (iw d n r))∧DkIs w' L (dT d n r)∧Ch (fun k=>k=L.gd) w w':=by
 have HH:=hid h;obtain ⟨ops,hb⟩:=h.blk;have HB:=hid hb;have hat:=h.ok.at_;have hmo:=h.ok.more;have hkd:=h.ok.kind;have HOK:=hid h.ok;clear h;generalize hgd:L.gd=gd at *;obtain ⟨c0,c1,c2,c3,c4,c5,c6,c7,hlt,hfz⟩:=bH hb;have f3:=hfz 3;have f5:=hfz 5;have f7:=hfz 7;clear hb hfz;go_enter Tryz.func217,Tryz.ntmps217;go_wp2_with fail;refine (sn n w).mono ?_;rintro e w1 ⟨rfl,rfl⟩;cases hg:cW n
 ·have HE:=hid (show iw d n r=1∧dT d n r=d by unfold iw dT;rw [hg];exact ⟨rfl,rfl⟩);go_wp2_with fail;go_ret;exact ⟨by rw [HE.out.1];rfl,by rw [HE.out.2];exact HH.out,Ch.refl _ _⟩
 ·cases r
  ·have HE:=hid (show iw d n false=1∧dT d n false=d by unfold iw dT;rw [hg];exact ⟨rfl,rfl⟩);go_wp2_with fail;go_ret;exact ⟨by rw [HE.out.1];rfl,by rw [HE.out.2];exact HH.out,Ch.refl _ _⟩
  ·cases hdn:d.down
   ·rw [hdn] at c2;obtain ⟨o2,ho2⟩:∃ o2,IntKind.i64.wrap (ops+1)=o2:=⟨_,rfl⟩;have h1:=ae HB.out 3 (.int .i64 o2);have HC1:=hid ((Ch.refl (fun k=>k=gd) w).setCell (p:=⟨gd,3,none⟩) rfl (.int .i64 o2));by_cases h0:d.at_=0
    ·have HE:=hid (show iw d n true=0∧dT d n true=d by unfold iw dT;rw [hg,hdn,if_pos (Or.inl h0),if_pos h0];exact ⟨rfl,rfl⟩);have H1:=hid h1;clear h1;rw [h0] at c5;go_wp2_with fail;go_ret;exact ⟨by rw [HE.out.1];rfl,by rw [HE.out.2];exact HH.out.blk' (ops:=o2) (by rw [hgd];exact HC1.out) (by rw [hgd];exact H1.out) rfl HOK.out,HC1.out⟩
    ·by_cases h2:1<d.at_
     ·have hw1:IntKind.i64.wrap (d.at_ - 1)=d.at_ - 1:=by rw [IntKind.wrap_i64];omega
      have HE:=hid (show iw d n true=0∧dT d n true={ d with at_:=d.at_ - 1 } by unfold iw dT;rw [hg,hdn,if_neg h0,if_pos (Or.inr h2),if_pos h2];exact ⟨rfl,rfl⟩);have H1:=hid (ae h1 5 (.int .i64 (d.at_ - 1)));have HC2:=hid (HC1.out.setCell (p:=⟨gd,5,none⟩) rfl (.int .i64 (d.at_ - 1)));clear h1;have hz:(d.at_ == 0)=false:=by simpa using h0
      go_wp2_with fail;go_ret;exact ⟨by rw [HE.out.1];rfl,by rw [HE.out.2];exact HH.out.blk' (ops:=o2) (d':={ d with at_:=d.at_ - 1 }) (by rw [hgd];exact HC2.out) (by rw [hgd];exact H1.out) rfl (by have:=oZ HOK.out n true;rw [HE.out.2] at this;exact this),HC2.out⟩
     ·have hz:(d.at_ == 0)=false:=by simpa using h0
      have hz2:decide (d.at_ > 1)=false:=decide_eq_false h2;have hz3:(d.kind == 2)=false:=by simpa using hkd
      by_cases h3:0<d.more
      ·have hw1:IntKind.i64.wrap (d.more - 1)=d.more - 1:=by rw [IntKind.wrap_i64];omega
       have HE:=hid (show iw d n true=11∧dT d n true={ d with more:=d.more - 1 } by unfold iw dT;rw [hg,hdn,if_neg h0,if_neg (not_or.2 ⟨h0,h2⟩),if_neg h2,if_pos h3];exact ⟨rfl,rfl⟩);have H1:=hid (ae h1 7 (.int .i64 (d.more - 1)));have HC2:=hid (HC1.out.setCell (p:=⟨gd,7,none⟩) rfl (.int .i64 (d.more - 1)));clear h1;go_wp2_with fail;go_ret;exact ⟨by rw [HE.out.1];rfl,by rw [HE.out.2];exact HH.out.blk' (ops:=o2) (d':={ d with more:=d.more - 1 }) (by rw [hgd];exact HC2.out) (by rw [hgd];exact H1.out) rfl (by have:=oZ HOK.out n true;rw [HE.out.2] at this;exact this),HC2.out⟩
      ·have HE:=hid (show iw d n true=11∧dT d n true={ d with at_:=0 } by unfold iw dT;rw [hg,hdn,if_neg h0,if_neg (not_or.2 ⟨h0,h2⟩),if_neg h2,if_neg h3];exact ⟨rfl,rfl⟩);have H1:=hid (ae h1 5 (.int .i64 0));have HC2:=hid (HC1.out.setCell (p:=⟨gd,5,none⟩) rfl (.int .i64 0));clear h1;have hz4:decide (d.more > 0)=false:=decide_eq_false h3;go_wp2_with fail;go_ret;exact ⟨by rw [HE.out.1];rfl,by rw [HE.out.2];exact HH.out.blk' (ops:=o2) (d':={ d with at_:=0 }) (by rw [hgd];exact HC2.out) (by rw [hgd];exact H1.out) rfl (by have:=oZ HOK.out n true;rw [HE.out.2] at this;exact this),HC2.out⟩
   ·rw [hdn] at c2;have HE:=hid (show iw d n true=10∧dT d n true=d by unfold iw dT;rw [hg,hdn];exact ⟨rfl,rfl⟩);go_wp2_with fail;go_ret;exact ⟨by rw [HE.out.1];rfl,by rw [HE.out.2];exact HH.out,Ch.refl _ _⟩
theorem cD {d:Dk} (h:d.Ok) {n:By} {f:Fi} (hf:d.file n=some f):f.Ok:=h.fok _ (cH hf)
def Ce (g:Option Nat):Value:=qg ai (.pointer none) g
def FndP (d:Dk) (n:By) (r:Bool) (L:DkM) (v:Value):Prop:=if iw d n r≠0 then v=.pointer none else v=Ce (aC L.K n)
theorem dG (n:By) (hn:n.length≤1000) (r:Bool) (w:World) {L:DkM} {d:Dk} (h:DkIs w L d):
  Calls Tryz.prog 163 #[.pointer (some ⟨L.gd,0,none⟩),cZ n,.bool r] w fun e w'=>∃ v,e=.returned (.tuple #[v,.int .i64 (dQ d n r)])∧FndP d n r L v∧DkIs w' L (dT d n r)∧Ch (fun k=>k=L.gd) w w':=by
 have HH:=hid h;clear h;go_enter Tryz.func163,Tryz.ntmps163;unfold cZ;go_wp2_with fail;refine (vk n r w HH.out).mono ?_;rintro e w1 ⟨rfl,hd,hc⟩;by_cases he:iw d n r=0
 ·have hl:=hd.map.look fmT (a:=n) hn;obtain ⟨ops,hb⟩:=hd.blk;obtain ⟨c0,c1,c2,c3,c4,c5,c6,c7,hlt,-⟩:=bH hb;have HD:=hid hd;have HC:=hid hc;clear hd hc hb;rw [he];unfold cZ at hl;cases hg:aC L.K n with
  | none=>
    have hf:d.file n=none:=by
     cases hf:d.file n with
     | none=>rfl
     | some f=> obtain ⟨g,h1,-⟩:=HH.out.fso hf;rw [hg] at h1;cases h1
    have HE:=hid (show dQ d n r=14 by unfold dQ;rw [he,if_neg (by simp),hf];rfl);rw [hg] at hl;unfold qg at hl;simp only at hl;go_wp2_with fail;go_ret2;exact ⟨_,by rw [HE.out];rfl,by unfold FndP;rw [if_neg (by rw [he];simp),hg];rfl,HD.out,HC.out⟩
  | some g=> obtain ⟨f,hf,-⟩:=HH.out.fil _ (cH hg);have hf:d.file n=some f:=hf;have HE:=hid (show dQ d n r=0 by unfold dQ;rw [he,if_neg (by simp),hf];rfl);rw [hg] at hl;unfold qg ai at hl;simp only at hl;go_wp2_with fail;go_ret2;exact ⟨_,by rw [HE.out];rfl,by unfold FndP;rw [if_neg (by rw [he];simp),hg];rfl,HD.out,HC.out⟩
 ·have HE:=hid (show dQ d n r=iw d n r by unfold dQ;rw [if_pos he]);have HV:=hid (show FndP d n r L (.pointer none) by unfold FndP;rw [if_pos he]);have HD:=hid hd;have HC:=hid hc;clear hd hc;generalize iw d n r=x at *;have hx:(x == 0)=false:=by simpa using he
  go_wp2_with fail;go_ret2;exact ⟨_,by rw [HE.out];rfl,HV.out,HD.out,HC.out⟩
theorem bd {w:World} {g:Nat} {m:FilM} {s:Bool} (h:w.heap[g]?=some (wW m s)):
  w.cell? ⟨g,0,none⟩=some m.vn∧w.cell? ⟨g,1,none⟩=some m.vs∧w.cell? ⟨g,2,none⟩=some m.vw∧w.cell? ⟨g,3,none⟩=some (.bool s)∧g<w.heap.size∧∀ i,w.frozen? ⟨g,i,none⟩=false:=
 ⟨aa h 0,aa h 1,aa h 2,aa h 3,ab h,ah h⟩
theorem FilIs.lenV {w:World} {C:Nat→Prop} {E:Nat→By} {g:Nat} {m:FilM} {f:Fi} (h:FilIs w C E g m f):∃ A c,m.vn=.slice A f.now.length c:=by obtain ⟨A,c,e⟩:=Sl.len' (h.on.sl cJ);rw [h.now];exact ⟨A,c,by rw [e];simp⟩
theorem bp (n:By) (hn:n.length≤1000) (w:World) {L:DkM} {d:Dk} (h:DkIs w L d):
  Calls Tryz.prog 101 #[.pointer (some ⟨L.gd,0,none⟩),cZ n] w fun e w'=>e=.returned (.int .i64 (d.size n))∧w=w':=by
 have hl:=h.map.look fmT (a:=n) hn;obtain ⟨ops,hb⟩:=h.blk;obtain ⟨c0,c1,c2,c3,c4,c5,c6,c7,hlt,-⟩:=bH hb;have HH:=hid h;clear h hb;unfold cZ at hl ⊢;go_enter Tryz.func101,Tryz.ntmps101;cases hf:d.file n with
 | none=> have HE:=hid (show d.size n=-1 by unfold Dk.size;rw [hf]);rw [HH.out.fno hf] at hl;unfold qg at hl;simp only at hl;go_wp2_with fail;go_ret;exact ⟨by rw [HE.out];rfl,rfl⟩
 | some f=> have HE:=hid (show d.size n=f.now.length by unfold Dk.size;rw [hf]);obtain ⟨g,h1,-,h2⟩:=HH.out.fso hf;rw [h1] at hl;unfold qg ai at hl;simp only at hl;obtain ⟨A,c,hv⟩:=h2.lenV;obtain ⟨b0,-,-,-,hgl,-⟩:=bd h2.blk;rw [hv] at b0;have hle:f.now.length≤100000:=(cD HH.out.ok hf).n;clear h2;go_wp2_with fail;go_ret;exact ⟨by rw [HE.out];rfl,rfl⟩
theorem co (w:World) {L:DkM} {d:Dk} (h:DkIs w L d):
  Calls Tryz.prog 63 #[.pointer (some ⟨L.gd,0,none⟩)] w fun e w'=>e=.returned (.bool d.down)∧w=w':=by
 obtain ⟨ops,hb⟩:=h.blk;obtain ⟨c0,c1,c2,c3,c4,c5,c6,c7,hlt,-⟩:=bH hb;clear h hb;go_enter Tryz.func63,Tryz.ntmps63;go_wp2_with fail;go_ret;exact ⟨rfl,rfl⟩
theorem dn (w:World) {L:DkM} {d:Dk} (h:DkIs w L d):
  Calls Tryz.prog 44 #[.pointer (some ⟨L.gd,0,none⟩)] w fun e w'=>e=.returned (.int .i64 d.life)∧w=w':=by
 obtain ⟨ops,hb⟩:=h.blk;obtain ⟨c0,c1,c2,c3,c4,c5,c6,c7,hlt,-⟩:=bH hb;clear h hb;go_enter Tryz.func44,Tryz.ntmps44;go_wp2_with fail;go_ret;exact ⟨rfl,rfl⟩
theorem kN (n:By) (hn:n.length≤1000) (i:Int) (w:World) {L:DkM} {d:Dk} (h:DkIs w L d):
  Calls Tryz.prog 153 #[.pointer (some ⟨L.gd,0,none⟩),cZ n,.int .i64 i] w fun e w'=>e=.returned (.tuple #[.string (aj (yj d n i)),.int .i64 (sY d n i)])∧DkIs w' L (dT d n true)∧Ch (fun k=>k=L.gd) w w':=by
 have HH:=hid h;clear h;go_enter Tryz.func153,Tryz.ntmps153;unfold cZ;go_wp2_with fail;refine (dG n hn true w HH.out).mono ?_;rintro e w1 ⟨v,rfl,hv,hd,hc⟩;have HD:=hid hd;have HC:=hid hc;clear hc hd;by_cases he:dQ d n true=0
 ·obtain ⟨f,hf⟩:∃ f,d.file n=some f:=by
   cases hf:d.file n with
   | some f=>exact ⟨f,rfl⟩
   | none=>
     unfold dQ at he;rw [hf] at he
     split at he
     ·contradiction
     ·cases he
  obtain ⟨g,h1,h1m,h2⟩:=HD.out.fso (d:=dT d n true) (n:=n) (f:=f) (by rw [bT];exact hf);have hve:v=ai g:=by
   unfold FndP at hv;have h0:iw d n true=0:=by unfold dQ at he;split at he;contradiction;rename_i h;simpa using h
   rw [if_neg (by simpa using h0),h1] at hv;exact hv
  subst hve;clear hv;rw [he];unfold ai;have hfo:=cD HH.out.ok hf;have hle:=hfo.n;obtain ⟨A,c,hv⟩:=h2.lenV;obtain ⟨b0,-,-,-,hgl,-⟩:=bd h2.blk;have H2:=hid h2;clear h2;by_cases hi:0≤i∧i<f.now.length
  ·obtain ⟨k,rfl⟩:∃ k:Nat,i=k:=⟨i.toNat,by omega⟩;have hk:k<f.now.length:=by omega
   have HE:=hid (show sY d n k=0∧yj d n k=f.now[k] by
    have:sY d n k=0:=by unfold sY Dk.size;rw [he,hf,if_neg (by simp),if_pos hi]
    refine ⟨this,?_⟩;unfold yj Dk.sec;rw [if_pos this,hf];simp [List.getD_eq_getElem?_getD,List.getElem?_eq_getElem hk])
   have hlp:(H2.out.now ▸ hk:k<((L.M g).ps.map L.E).length)=_:=rfl;have hkp:k<(L.M g).ps.length:=by have:=hk;rw [H2.out.now,List.length_map] at this;exact this
   obtain ⟨b,off,cc,hsv,-,hbl,hsl⟩:=((H2.out.on.sl cJ).cases).resolve_left (fun ⟨_,_,_,h⟩=>by have:=congrArg List.length h;simp at this;rw [this] at hkp;simp at hkp);have hcl:=(hsl.cells (k:=k) (by simpa using hkp)).2 0 _ rfl;simp only [List.getElem_map,Nat.mul_one,Nat.add_zero,mq,Option.map_some] at hcl;rw [hsv] at b0;have hlen:((L.M g).ps.map some).length=f.now.length:=by rw [H2.out.now];simp
   rw [hlen] at b0 hsv;have hcb:=HD.out.cel _ (H2.out.pc _ (List.getElem_mem hkp));have q0:=aa hcb 0;have q1:=aa hcb 1;have hql:=ab hcb;have HS:=hid (show f.now[k]=L.E ((L.M g).ps[k]) by
    have:f.now[k]?=(List.map L.E (L.M g).ps)[k]?:=by rw [H2.out.now]
    rw [List.getElem?_eq_getElem hk,List.getElem?_map,List.getElem?_eq_getElem hkp] at this;injection this)
   generalize (L.M g).ps[k]=p at *;clear hcb hsl hsv hv hlp;have hi1:(0:Int)≤(k:Int):=by omega
   have hd0:decide ((k:Int)<0)=false:=decide_eq_false (by omega);have hd1:decide ((k:Int) ≥ (f.now.length:Int))=false:=decide_eq_false (by omega);simp only [List.getElem?_toArray,List.getElem?_cons_zero,List.getElem?_cons_succ] at q0 q1;go_wp2_with fail;go_ret2;exact ⟨by rw [HE.out.1,HE.out.2,HS.out];rfl,HD.out,HC.out⟩
  ·have HE:=hid (show sY d n i=14∧yj d n i=[] by
    have:sY d n i=14:=by unfold sY Dk.size;rw [he,hf,if_neg (by simp),if_neg hi]
    refine ⟨this,?_⟩;unfold yj;rw [if_neg (by rw [this];decide)])
   rw [hv] at b0;by_cases h0:i<0
   ·go_wp2_with fail;go_ret2;exact ⟨by rw [HE.out.1,HE.out.2];rfl,HD.out,HC.out⟩
   ·have hd0:decide (i<0)=false:=decide_eq_false h0;have hd1:decide (i ≥ (f.now.length:Int))=true:=decide_eq_true (by omega);go_wp2_with fail;go_ret2;exact ⟨by rw [HE.out.1,HE.out.2];rfl,HD.out,HC.out⟩
 ·have HE:=hid (show sY d n i=dQ d n true∧yj d n i=[] by
   have:sY d n i=dQ d n true:=by unfold sY;rw [if_pos he]
   exact ⟨this,by unfold yj;rw [if_neg (by rw [this];exact he)]⟩)
  generalize dQ d n true=x at *;have hx:(x == 0)=false:=by simpa using he
  go_wp2_with fail;go_ret2;exact ⟨by rw [HE.out.1,HE.out.2];rfl,HD.out,HC.out⟩
end Go.Proofs.YtdmhbgpejppbkaaGreat
namespace Go.Proofs.YtdmhbgpejppbkaaGreat
open Go.RowKit
structure Ob where
 F:Nat→Prop
 P:World→Prop
 loc:∀ {S:Nat→Prop} {w w':World},P w→Ch S w w'→(∀ k,F k→¬ S k)→P w'
 lt:∀ {w:World},P w→∀ k,F k→k<w.heap.size
def Sep (w:World) (l:List Ob):Prop:=(∀ o ∈ l,o.P w)∧l.Pairwise fun a b=>∀ k,a.F k→¬ b.F k
section
variable {w w':World} {l l1 l2:List Ob} {a b:Ob}
theorem Sep.perm (h:Sep w l) (hp:l.Perm l1):Sep w l1:=⟨fun o ho=>h.1 o (hp.mem_iff.2 ho),(hp.pairwise_iff (fun {_ _} hx k h1 h2=>hx k h2 h1)).1 h.2⟩
theorem Sep.apart (h:Sep w (l1 ++ a :: l2)):∀ o ∈ l1 ++ l2,∀ k,o.F k→¬ a.F k:=fun o ho k hk hak=>by
 have h2:=List.pairwise_append.1 h.2;rcases List.mem_append.1 ho with ho | ho
 ·exact h2.2.2 o ho a (by simp) k hk hak
 ·exact (List.pairwise_cons.1 h2.2.1).1 o ho k hak hk
theorem Sep.upd {S:Nat→Prop} (h:Sep w (l1 ++ a :: l2)) (hc:Ch S w w') (hs:∀ k,S k→a.F k) (hb:b.P w') (hF:∀ k,b.F k→a.F k∨w.heap.size≤k):Sep w' (l1 ++ b :: l2):=by
 have hap:=h.apart;have hlt:∀ o ∈ l1 ++ l2,∀ k,o.F k→k<w.heap.size:=fun o ho k hk=>o.lt (h.1 o (by rcases List.mem_append.1 ho with ho | ho <;> simp [ho])) k hk
 have hd:∀ o ∈ l1 ++ l2,∀ k,o.F k→¬ b.F k:=fun o ho k hk hbk=>by
  rcases hF k hbk with h1 | h1
  ·exact hap o ho k hk h1
  ·have:=hlt o ho k hk;omega
 have h2:=List.pairwise_append.1 h.2;have h3:=List.pairwise_cons.1 h2.2.1;refine ⟨fun o ho=>?_,List.pairwise_append.2 ⟨h2.1,List.pairwise_cons.2 ⟨fun o ho k hk hok=>hd o (by simp [ho]) k hok hk,h3.2⟩,fun x hx y hy=>?_⟩⟩
 ·have hm:o=b∨o ∈ l1 ++ l2:=by
   simp only [List.mem_append,List.mem_cons] at ho ⊢;rcases ho with ho | ho | ho
   ·exact .inr (.inl ho)
   ·exact .inl ho
   ·exact .inr (.inr ho)
  rcases hm with rfl | hm
  ·exact hb
  ·exact o.loc (h.1 o (by rcases List.mem_append.1 hm with hm | hm <;> simp [hm])) hc fun k hk hsk=>hap o hm k hk (hs k hsk)
 ·rcases List.mem_cons.1 hy with rfl | hy
  ·exact fun k hk=>hd x (by simp [hx]) k hk
  ·exact h2.2.2 x hx y (by simp [hy])
theorem Sep.keep {S:Nat→Prop} (h:Sep w l) (hc:Ch S w w') (hs:∀ o ∈ l,∀ k,o.F k→¬ S k):Sep w' l:=⟨fun o ho=>o.loc (h.1 o ho) hc fun k hk=>hs o ho k hk,h.2⟩
theorem Sep.below (h:Sep w l) (hb:Below w.heap.size w w'):Sep w' l:=h.keep (S:=fun _=>False) (Ch.of_below hb) fun _ _ _ _ h=>h
theorem Sep.new (h:Sep w l) (hb:Below w.heap.size w w') (hP:b.P w') (hF:∀ k,b.F k→w.heap.size≤k):Sep w' (b :: l):=by
 have h2:=h.below hb;refine ⟨fun o ho=>?_,List.pairwise_cons.2 ⟨fun o ho k hk hok=>?_,h2.2⟩⟩
 ·rcases List.mem_cons.1 ho with rfl | ho
  ·exact hP
  ·exact h2.1 o ho
 ·have:=o.lt (h.1 o ho) k hok;have:=hF k hk;omega
theorem Sep.drop (h:Sep w (l1 ++ a :: l2)):Sep w (l1 ++ l2):=by have h2:=List.pairwise_append.1 h.2;have h3:=List.pairwise_cons.1 h2.2.1;exact ⟨fun o ho=>h.1 o (by rcases List.mem_append.1 ho with ho | ho <;> simp [ho]),List.pairwise_append.2 ⟨h2.1,h3.2,fun x hx y hy=>h2.2.2 x hx y (by simp [hy])⟩⟩
theorem Sep.as (h:Sep w (l1 ++ a :: l2)) (hb:b.P w) (hF:∀ k,b.F k→a.F k):Sep w (l1 ++ b :: l2):=h.upd (S:=fun _=>False) (Ch.refl _ w) (fun _ h=>h.elim) hb (fun k hk=>.inl (hF k hk))
end
def Ob.nil:Ob:=⟨fun _=>False,fun _=>True,fun _ _ _=>trivial,fun _ _ h=>h.elim⟩
def Ob.blk (g:Nat) (o:Obj):Ob:=⟨fun k=>k=g,fun w=>w.heap[g]?=some o,fun h hc hn=>hc.keep h (hn g rfl),fun h _ hk=>hk ▸ ab h⟩
def Ob.row {α:Type} (f:α→List Value) (size:Nat) (e:TypeId) (v:Value) (xs:List α):Ob:=
 ⟨fun k=>v.ownBlock=some k,fun w=>Own f size e 0 w v xs,fun h hc hn=>h.ch hc fun k hk=>hn k hk,fun h k hk=>(h.lt k hk).2⟩
end Go.Proofs.YtdmhbgpejppbkaaGreat
