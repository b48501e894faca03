/- tree.alter: what it answers; no code 0. -/
import Derived.Test.YtknioodagnjchaaGreatDoorRTPut1
namespace Go.Proofs.YtknioodagnjchaaGreatDoor
open Go.RowKit
def tV (v:Value):Prop:=∃ (m:Nd) (A1:Option Addr) (n1 c1:Nat) (A2:Option Addr) (n2 c2:Nat) (A3:Option Addr) (n3 c3:Nat),v=.agg #[.bool m.leaf,.slice A1 n1 c1,.slice A2 n2 c2,.slice A3 n3 c3]
def qo (base:Nat) (w:World) (e:Ending):Ans (Option Nd)→Prop
 | .ok (some n)=>∃ v,e=.returned (.tuple #[v,.bool true,.int .i64 0])∧NdF base w v n∧n.Fit∧n.Sm 231
 | .ok none=>∃ v,e=.returned (.tuple #[v,.bool false,.int .i64 0])∧tV v
 | .err x=>∃ v b,e=.returned (.tuple #[v,.bool b,.int .i64 x])∧tV v
theorem NdF.blk {B:Nat} {w:World} {n:Nd} {vk vc vd:Value} (h1:SlF sC 1 B w vk n.keys) (h2:SlF cC 3 B w vc n.cells) (h3:SlF iC 1 B w vd n.kids):NdF B w (.agg #[.bool n.leaf,vk,vc,vd]) n:=⟨vk,vc,vd,rfl,h1,h2,h3⟩
theorem PN.of_own {base gn:Nat} {n:Nd} {w:World} {vk vc vd:Value} (h0:w.heap[gn]?=some (ap n vk vc vd)) (h1:SlF sC 1 base w vk n.keys) (h2:SlF cC 3 base w vc n.cells) (h3:SlF iC 1 base w vd n.kids) (m1:Ne vk gn) (m2:Ne vc gn) (m3:Ne vd gn):PN base gn n w:=PN.mk' h0 h1 h2 h3 m1 m2 m3
theorem PN.any {B gn:Nat} {n:Nd} {w:World} (h:PN B gn n w):∃ A1 c1 A2 c2 A3 c3,w.heap[gn]?=some (ap n (.slice A1 n.keys.length c1) (.slice A2 n.cells.length c2) (.slice A3 n.kids.length c3))∧NdF B w (.agg #[.bool n.leaf,.slice A1 n.keys.length c1,.slice A2 n.cells.length c2,.slice A3 n.kids.length c3]) n:=by obtain ⟨A1,c1,A2,c2,A3,c3,h0,h1,h2,h3,_⟩:=h;exact ⟨A1,c1,A2,c2,A3,c3,h0,_,_,_,rfl,h1,h2,h3⟩
theorem Lf.ndf {base gn:Nat} {n:Nd} {w:World} (h:Lf base gn n w):∃ A1 c1 A2 c2 A3 c3,w.heap[gn]?=some (ap n (.slice A1 n.keys.length c1) (.slice A2 n.cells.length c2) (.slice A3 n.kids.length c3))∧NdF base w (.agg #[.bool n.leaf,.slice A1 n.keys.length c1,.slice A2 n.cells.length c2,.slice A3 n.kids.length c3]) n:=by obtain ⟨A1,c1,A2,c2,A3,c3,h0,h1,h2,h3,_⟩:=h.forms;exact ⟨A1,c1,A2,c2,A3,c3,h0,_,_,_,rfl,h1.slf aP,h2.slf bu,h3.slf aA⟩
theorem fj (n c:Nd) (i:Nat):(dm n i c).NZ:=fun _=>Pro.NZ.bind _ _ (ci _ _) (fun _=>Pro.NZ.bind _ _ (ci _ _) (fun _=>trivial))
theorem mU (n l r:Nd) (i:Nat):(ct n i l r).NZ:=by
 unfold ct
 split
 ·exact Pro.NZ.bind _ _ (ci _ _) (fun _=>trivial)
 ·exact Pro.NZ.bind _ _ (ci _ _) (fun _=>Pro.NZ.bind _ _ (ci _ _) (fun _=>trivial))
theorem nX (n c:Nd) (i:Nat):(aX n i c).NZ:=by
 unfold aX
 split
 ·exact fj _ _ _
 ·split
  ·exact Pro.NZ.bind _ _ (ci _ _) (fun _=>trivial)
  ·split
   ·refine Pro.NZ.bind _ _ (eo _) (fun l=>?_)
    split
    ·exact mU _ _ _ _
    ·exact show (30:Int)≠0 by decide
   ·refine Pro.NZ.bind _ _ (eo _) (fun l=>?_)
    split
    ·exact mU _ _ _ _
    ·exact show (30:Int)≠0 by decide
theorem fD {act:Nd→Pro (Option Nd)} (ha:∀ n,(act n).NZ) (k:By):∀ (f:Nat) (a:Int),(aT act k f a).NZ
 | 0,a=>by
   unfold aT;refine Pro.NZ.bind _ _ (eo _) (fun n=>?_)
   split
   ·exact ha n
   ·exact show (30:Int)≠0 by decide
 | f+1,a=>by
   unfold aT;refine Pro.NZ.bind _ _ (eo _) (fun n=>?_)
   split
   ·exact ha n
   ·refine Pro.NZ.bind _ _ (fD ha k f _) (fun o=>?_);cases o with
    | none=>trivial
    | some c=>exact Pro.NZ.bind _ _ (nX _ _ _) (fun _=>trivial)
def Pro.All {α:Type} (P:α→Prop):Pro α→Prop
 | .pure a=>P a
 | .fail _=>True
 | .get _ k=>∀ l,(k l).All P
 | .put _ _ k=>(k ()).All P
 | .new k=>∀ n,(k n).All P
 | .free _ k=>(k ()).All P
theorem Pro.All.run {α:Type} {P:α→Prop}:∀ (p:Pro α) (s s':Sf) (a:α),p.All P→p.run s=(s',.ok a)→P a
 | .pure a,s,s',x,h,e=>by injection e with _ e;injection e with e;exact e ▸ h
 | .fail _,s,s',x,h,e=>by cases e
 | .get n k,s,s',x,h,e=>by
   simp only [Pro.run] at e
   split at e
   ·exact Pro.All.run _ _ _ _ (h _) e
   ·cases e
 | .put n d k,s,s',x,h,e=>by
   simp only [Pro.run] at e
   split at e
   ·exact Pro.All.run (k ()) _ _ _ h e
   ·cases e
 | .new k,s,s',x,h,e=>by
   simp only [Pro.run] at e
   split at e
   ·exact Pro.All.run _ _ _ _ (h _) e
   ·cases e
 | .free n k,s,s',x,h,e=>by
   simp only [Pro.run] at e
   split at e
   ·exact Pro.All.run (k ()) _ _ _ h e
   ·cases e
theorem Pro.All.bind {α β:Type} {P:β→Prop}:∀ (p:Pro α) (f:α→Pro β),(∀ a,(f a).All P)→(p.bind f).All P
 | .pure a,_,hf=>hf a
 | .fail _,_,_=>trivial
 | .get _ k,f,hf=>fun l=>Pro.All.bind (k l) f hf
 | .put _ _ k,f,hf=>Pro.All.bind (k ()) f hf
 | .new k,f,hf=>fun n=>Pro.All.bind (k n) f hf
 | .free _ k,f,hf=>Pro.All.bind (k ()) f hf
theorem mH {α:Type} {P:α→Prop} {a:Int} {f:Nd→Pro α} (h:∀ x,aB x=true→x.Sm 229→(f x).All P):((aV a).bind f).All P:=fun l=>by
 show Pro.All P ((match cN l with
  | none=>Pro.fail 30
  | some n=>Pro.pure n:Pro Nd).bind f)
 cases hd:cN l with
 | none=>trivial
 | some x=>exact h x (ot hd).1 (ot hd).2
theorem sm {α:Type} {l:List α} {i:Nat} {x:α} (h:i≤l.length):(l.insertIdx i x).length=l.length+1:=List.length_insertIdx_of_le_length h _
theorem se {α:Type} {l:List α} {i:Nat} {x y:α} (h:i≤l.length) (hy:y ∈ l.insertIdx i x):y=x∨y ∈ l:=by
 rw [fP _ _ _ h] at hy;rcases List.mem_append.1 hy with hy | hy
 ·exact .inr (List.mem_of_mem_take hy)
 ·rcases List.mem_cons.1 hy with rfl | hy
  ·exact .inl rfl
  ·exact .inr (List.mem_of_mem_drop hy)
def tJ (n:Nd):Prop:=n.Fit∧n.Sm 231∧n.leaf=false
theorem iX {c:Nd} {m:Nat} (h:c.Sm m):(cw c).2.1.length≤64:=by
 unfold cw;have:∀ k,k<c.keys.length∨k=0→∀ x,bI c k=some x→x.2.1.length≤64:=by
  intro k
  induction k with
  | zero=>intro _ x hx;cases hx
  | succ k ih=>
    intro hk x hx;have hk:k+1<c.keys.length:=by omega
    have hcut:(aM c (k+1)).2.1.length≤64:=by
     unfold aM
     split
     ·show (c.keys.getD (k+1) []).length≤64;rw [List.getD_eq_getElem?_getD,List.getElem?_eq_getElem hk];exact h.kl _ (List.getElem_mem hk)
     ·show (c.keys.getD (k+1) []).length≤64;rw [List.getD_eq_getElem?_getD,List.getElem?_eq_getElem hk];exact h.kl _ (List.getElem_mem hk)
    have hx:(if dp (aM c (k+1)) then match bI c k with
     | none=>some (aM c (k+1))
     | some b=>if ie (aM c (k+1))<ie b then some (aM c (k+1)) else some b
    else bI c k)=some x:=hx
    split at hx
    ·cases hb:bI c k with
     | none=>rw [hb] at hx;injection hx with hx;subst hx;exact hcut
     | some b=>
       rw [hb] at hx;simp only at hx
       split at hx
       ·injection hx with hx;subst hx;exact hcut
       ·injection hx with hx;subst hx;exact ih (.inl (by omega)) _ hb
    ·exact ih (.inl (by omega)) _ hx
 cases hb:bI c (c.keys.length - 1) with
 | none=>exact Nat.zero_le _
 | some x=>exact this _ (by omega) x hb
theorem jR {n c:Nd} {i:Nat} {m:Nat} (hf:n.Fit) (hn:n.Sm 229) (hl:n.leaf=false) (hi:i<n.kids.length) (hc:c.Sm m) (hk:0<n.keys.length):(aX n i c).All tJ:=by
 have h1:=hn.k;have h2:=hn.c;have h3:=hn.d;obtain ⟨h4,h5⟩:=hf.d hl;have hn0:tJ n:=⟨hf,hn.mono (by decide),hl⟩;have hmeet:∀ (j:Nat) (l r:Nd) (m1 m2:Nat),l.Sm m1→r.Sm m2→j<n.keys.length→(ct n j l r).All tJ:=by
  intro j l r m1 m2 hl1 hr1 hj;have hkj:(n.keys.getD j []).length≤64:=by rw [List.getD_eq_getElem?_getD,List.getElem?_eq_getElem hj];exact hn.kl _ (List.getElem_mem hj)
  unfold ct
  split
  ·refine Pro.All.bind _ _ fun _=>?_
   show tJ _;have e1:=(List.eraseIdx_sublist n.keys j).length_le;have e2:=(List.eraseIdx_sublist n.kids (j+1)).length_le;refine ⟨⟨fun hh=>?_,fun _=>⟨?_,h5⟩⟩,⟨by simp only;omega,by simp only;omega,by simp only;omega,fun k hk=>hn.kl k (i7 hk),hn.cl⟩,hl⟩
   ·simp only at hh;rw [hl] at hh;cases hh
   ·simp only;rw [List.length_eraseIdx_of_lt (by omega),List.length_eraseIdx_of_lt hj];omega
  ·refine Pro.All.bind _ _ fun _=>Pro.All.bind _ _ fun _=>?_
   show tJ _;refine ⟨⟨fun hh=>?_,fun _=>⟨?_,h5⟩⟩,⟨by simp only;rw [List.length_set];omega,by simp only;omega,by simp only;omega,fun k hk=>?_,hn.cl⟩,hl⟩
   ·simp only at hh;rw [hl] at hh;cases hh
   ·simp only;rw [List.length_set];exact h4
   ·rcases List.mem_or_eq_of_mem_set hk with hk | rfl
    ·exact hn.kl k hk
    ·exact iX (oY hl1 hr1 hkj)
 unfold aX
 split
 ·refine fun a=>Pro.All.bind _ _ fun _=>Pro.All.bind _ _ fun _=>?_
  show tJ _;refine ⟨⟨fun hh=>?_,fun _=>⟨?_,h5⟩⟩,⟨by simp only;rw [sm (by omega)];omega,by simp only;omega,by simp only;rw [sm (by omega)];omega,fun k hk=>?_,hn.cl⟩,hl⟩
  ·simp only at hh;rw [hl] at hh;cases hh
  ·simp only;rw [sm (by omega),sm (by omega)];omega
  ·rcases se (by omega) hk with rfl | hk
   ·exact iX hc
   ·exact hn.kl k hk
 ·split
  ·exact Pro.All.bind _ _ fun _=>hn0
  ·split
   ·refine mH fun x hg hx=>?_
    split
    ·exact hmeet _ _ _ _ _ hx hc (by omega)
    ·trivial
   ·refine mH fun x hg hx=>?_
    split
    ·exact hmeet _ _ _ _ _ hc hx hk
    ·trivial
end Go.Proofs.YtknioodagnjchaaGreatDoor
