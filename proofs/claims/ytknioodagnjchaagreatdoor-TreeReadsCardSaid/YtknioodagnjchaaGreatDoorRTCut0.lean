/- Slices whose blocks lie from a place on; nodes of such. -/
import Derived.Test.YtknioodagnjchaaGreatDoorRCb
import Derived.BigRegion
namespace Go.Proofs.YtknioodagnjchaaGreatDoor
open Go.RowKit
structure SlF {α:Type} (f:α→List Value) (size B:Nat) (w:World) (v:Value) (xs:List α):Prop where
 sl:Sl f size w v xs
 cap:∃ A c,v=.slice A xs.length c∧xs.length≤c∧c≤maxLen
 far:∀ k,v.ownBlock=some k→B≤k
section
variable {α:Type} {f:α→List Value} {size B B':Nat} {e:TypeId} {w w':World} {v:Value} {xs:List α} {S:Nat→Prop}
theorem Own.slf (h:Own f size e B w v xs) (hl:∀ x,(f x).length=size):SlF f size B w v xs:=by
 refine ⟨h.sl hl,?_,fun k hk=>(h.lt k hk).1⟩;rcases h.2 with ⟨rfl,h0⟩ | ⟨g,cap,cur,rfl,_,_,hn,hm,_⟩
 ·exact ⟨none,0,by rw [h0],by omega,Nat.zero_le _⟩
 ·exact ⟨_,cap,rfl,hn,hm⟩
theorem SlF.nil:SlF f size B w (.slice none 0 0) ([]:List α):=⟨Sl.nil,⟨none,0,rfl,Nat.le_refl _,Nat.zero_le _⟩,fun k h=>by cases h⟩
theorem SlF.keep (h:SlF f size B w v xs) (hb:Below w.heap.size w w'):SlF f size B w' v xs:=⟨h.sl.keep hb,h.cap,h.far⟩
theorem SlF.ch (h:SlF f size B w v xs) (hc:Ch S w w') (hs:∀ k,B≤k→¬ S k):SlF f size B w' v xs:=⟨sM h.sl hc fun k hk=>hs k (h.far k hk),h.cap,h.far⟩
theorem SlF.ch' (h:SlF f size B w v xs) (hc:Ch S w w') (hs:∀ k,v.ownBlock=some k→¬ S k):SlF f size B w' v xs:=⟨sM h.sl hc hs,h.cap,h.far⟩
theorem SlF.mono (h:SlF f size B w v xs) (hb:B'≤B):SlF f size B' w v xs:=⟨h.sl,h.cap,fun k hk=>Nat.le_trans hb (h.far k hk)⟩
theorem SlF.form (h:SlF f size B w v xs) (hne:xs≠[]):∃ b off c,v=.slice (some ⟨b,off,none⟩) xs.length c∧xs.length≤c∧c≤maxLen∧B≤b∧b<w.heap.size:=by
 obtain ⟨A,c,rfl,h1,h2⟩:=h.cap;obtain ⟨A',c',he,h3⟩:=h.sl;obtain ⟨b,off,rfl,hb,_⟩:=h3 hne;injection he with e1 e2 e3
 subst e1;exact ⟨b,off,c,rfl,h1,h2,h.far b rfl,hb⟩
theorem SlF.take {A:Option Addr} {n c:Nat} (h:SlF f size B w (.slice A n c) xs) {i:Nat} (hi:i≤xs.length):SlF f size B w (.slice A i i) (xs.take i):=by
 have hl:(xs.take i).length=i:=by rw [List.length_take];omega
 obtain ⟨A',c',he,h1,h2⟩:=h.cap;refine ⟨?_,⟨A,i,by rw [hl],by omega,by omega⟩,fun k hk=>h.far k (by cases A <;> exact hk)⟩;obtain ⟨A2,c2,he2,h3⟩:=h.sl;injection he2 with e1 e2 e3
 subst e1;refine ⟨A,i,by rw [hl],fun hne=>?_⟩;have:xs≠[]:=by rintro rfl;simp at hne
 obtain ⟨b,off,rfl,hb,hc⟩:=h3 this;refine ⟨b,off,rfl,hb,fun j x hj=>hc j x ?_⟩;rw [List.getElem?_take] at hj
 split at hj
 ·exact hj
 ·cases hj
theorem SlF.drop {b off n c:Nat} (h:SlF f size B w (.slice (some ⟨b,off,none⟩) n c) xs) {i:Nat} (hi:i≤xs.length) {o:Nat} (ho:i<xs.length→o=off+i * size):SlF f size B w (.slice (some ⟨b,o,none⟩) (n - i) (c - i)) (xs.drop i):=by
 obtain ⟨A',c',he,h1,h2⟩:=h.cap;injection he with e1 e2 e3
 subst e2 e3;have hl:(xs.drop i).length=xs.length - i:=List.length_drop ..;refine ⟨?_,⟨_,_,by rw [hl],by omega,by omega⟩,fun k hk=>h.far k hk⟩;refine ⟨_,_,by rw [hl],fun hne=>?_⟩;have hlt:i<xs.length:=by
  rcases Nat.lt_or_ge i xs.length with h | h
  ·exact h
  ·exact absurd (List.drop_eq_nil_of_le h) hne
 obtain ⟨A2,c2,he2,h3⟩:=h.sl;injection he2 with e1 e2 e3
 obtain ⟨b',off',e4,hb,hc⟩:=h3 (by rintro rfl;simp at hlt);rw [e4] at e1;injection e1 with e1
 injection e1 with e1 e2
 subst e1 e2;refine ⟨b,o,rfl,hb,fun j x hj t u hu=>?_⟩;rw [List.getElem?_drop] at hj;have:=hc (i+j) x hj t u hu;rw [ho hlt,show off+i * size+j * size+t=off+(i+j) * size+t by rw [Nat.add_mul];omega];exact this
end
def NdF (B:Nat) (w:World) (v:Value) (n:Nd):Prop:=∃ vk vc vd,v=.agg #[.bool n.leaf,vk,vc,vd]∧SlF sC 1 B w vk n.keys∧SlF cC 3 B w vc n.cells∧SlF iC 1 B w vd n.kids
section
variable {B B':Nat} {w w':World} {v:Value} {n:Nd} {S:Nat→Prop}
theorem NdO.f (h:NdO B w v n):NdF B w v n:=by obtain ⟨vk,vc,vd,rfl,h1,h2,h3,_⟩:=h;exact ⟨vk,vc,vd,rfl,h1.slf aP,h2.slf bu,h3.slf aA⟩
theorem NdF.val (h:NdF B w v n):NdV w v n:=by obtain ⟨vk,vc,vd,rfl,h1,h2,h3⟩:=h;exact ⟨vk,vc,vd,rfl,h1.sl,h2.sl,h3.sl⟩
theorem NdF.keep (h:NdF B w v n) (hb:Below w.heap.size w w'):NdF B w' v n:=by obtain ⟨vk,vc,vd,rfl,h1,h2,h3⟩:=h;exact ⟨vk,vc,vd,rfl,h1.keep hb,h2.keep hb,h3.keep hb⟩
theorem NdF.ch (h:NdF B w v n) (hc:Ch S w w') (hs:∀ k,B≤k→¬ S k):NdF B w' v n:=by obtain ⟨vk,vc,vd,rfl,h1,h2,h3⟩:=h;exact ⟨vk,vc,vd,rfl,h1.ch hc hs,h2.ch hc hs,h3.ch hc hs⟩
theorem NdF.mono (h:NdF B w v n) (hb:B'≤B):NdF B' w v n:=by obtain ⟨vk,vc,vd,rfl,h1,h2,h3⟩:=h;exact ⟨vk,vc,vd,rfl,h1.mono hb,h2.mono hb,h3.mono hb⟩
theorem NdF.zero:NdF B w mS Nd.zero:=⟨_,_,_,rfl,SlF.nil,SlF.nil,SlF.nil⟩
end
structure Nd.Fit (n:Nd):Prop where
 c:n.leaf=true→n.cells.length=n.keys.length∧n.kids=[]
 d:n.leaf=false→n.kids.length=n.keys.length+1∧n.cells=[]
theorem cB {n:Nd} (h:aB n=true):n.Fit:=⟨fun hl=>let ⟨_,h2,h3,_⟩:=bS h hl;⟨h2,h3⟩,fun hl=>let ⟨_,_,h3,h4,_⟩:=aI h hl;⟨h3,h4⟩⟩
theorem Sl.keyAt {w:World} {ks:List By} {b off n c:Nat} (h:Sl sC 1 w (.slice (some ⟨b,off,none⟩) n c) ks) {k:Nat} (hk:k<ks.length):w.cell? ⟨b,off+k,none⟩=some (.string (al ks[k])):=by
 have:=h.key hk;obtain ⟨b',off',e,_,_,h4⟩:=this;injection e with e
 injection e with e1 e2
 subst e1 e2;exact h4
theorem oC {x:Value} {a b c a' b' c':Value} (h:#[x,a,b,c]=#[x,a',b',c']):a=a'∧b=b'∧c=c':=by simpa using h
def SubN (v v':Value) (n n':Nd):Prop:=∀ B w,NdF B w v n→NdF B w v' n'
theorem SubN.mk {lf:Bool} {vk vc vd v':Value} {n n':Nd} (h:∀ B w,SlF sC 1 B w vk n.keys→SlF cC 3 B w vc n.cells→SlF iC 1 B w vd n.kids→NdF B w v' n'):SubN (.agg #[.bool lf,vk,vc,vd]) v' n n':=fun B w hh=>by
 obtain ⟨vk',vc',vd',ee,i1,i2,i3⟩:=hh;injection ee with ee
 have e:lf=n.leaf∧vk=vk'∧vc=vc'∧vd=vd':=by simpa using ee
 obtain ⟨-,rfl,rfl,rfl⟩:=e;exact h B w i1 i2 i3
theorem eD {w:World} {g:Nat} {n:Nd} {vk vc vd:Value} (h:w.heap[g]?=some (ap n vk vc vd)) (l:Bool) (a b c:Value):((((w.setCell ⟨g,0,none⟩ (.bool l)).setCell ⟨g,1,none⟩ a).setCell ⟨g,2,none⟩ b).setCell ⟨g,3,none⟩ c).heap[g]?=some (ap ⟨l,[],[],[]⟩ a b c):=
 ah (ah (ah (ah h 0 _) 1 _) 2 _) 3 _
theorem bD (w:World) (g:Nat) (l a b c:Value):Ch (fun k=>k=g) w ((((w.setCell ⟨g,0,none⟩ l).setCell ⟨g,1,none⟩ a).setCell ⟨g,2,none⟩ b).setCell ⟨g,3,none⟩ c):=
 ((((Ch.refl (fun k=>k=g) w).setCell (p:=⟨g,0,none⟩) rfl l).setCell (p:=⟨g,1,none⟩) rfl a).setCell (p:=⟨g,2,none⟩) rfl b).setCell (p:=⟨g,3,none⟩) rfl c
theorem pq {w:World} {g g2:Nat} {n n2:Nd} {vk vc vd vk2 vc2 vd2:Value} (h:w.heap[g]?=some (ap n vk vc vd)) (h2:w.heap[g2]?=some (ap n2 vk2 vc2 vd2)) (hne:g≠g2) (l l2:Bool) (a b c a2 b2 c2:Value):
  ∃ W,W=((((((((w.setCell ⟨g,0,none⟩ (.bool l)).setCell ⟨g,1,none⟩ a).setCell ⟨g,2,none⟩ b).setCell ⟨g,3,none⟩ c).setCell ⟨g2,0,none⟩ (.bool l2)).setCell ⟨g2,1,none⟩ a2).setCell ⟨g2,2,none⟩ b2).setCell ⟨g2,3,none⟩ c2)∧
    W.heap[g]?=some (ap ⟨l,[],[],[]⟩ a b c)∧W.heap[g2]?=some (ap ⟨l2,[],[],[]⟩ a2 b2 c2)∧Ch (fun k=>k=g∨k=g2) w W:=by
 have k1:=eD h l a b c;have k2:=bD w g (.bool l) a b c;have k3:=k2.keep h2 (fun e=>hne e.symm);have k4:=eD k3 l2 a2 b2 c2;have k5:=bD _ g2 (.bool l2) a2 b2 c2 |>.keep k1 hne;exact ⟨_,rfl,k5,k4,(k2.mono fun _ _ e=>.inl e).trans ((bD _ g2 (.bool l2) a2 b2 c2).mono fun _ _ e=>.inr e)⟩
end Go.Proofs.YtknioodagnjchaaGreatDoor
