/- tree: what Put and Del do to a leaf. -/
import Derived.Test.YtknioodagnjchaaGreatDoorVTSettle
namespace Go.Proofs.YtknioodagnjchaaGreatDoor
open Go.RowKit
structure Lf (base gn:Nat) (n:Nd) (w:World):Prop where
 is:∃ vk vc vd,w.heap[gn]?=some (ndB n vk vc vd)∧Own sC 1 9 base w vk n.keys∧Own cC 3 119 base w vc n.cells∧Own iC 1 3 base w vd n.kids∧Dis vk vc∧Dis vk vd∧Dis vc vd∧Ne vk gn∧Ne vc gn∧Ne vd gn
def NdA (gn:Nat) (w:World):Prop:=∃ (m:Nd) (A1:Option Addr) (n1 c1:Nat) (A2:Option Addr) (n2 c2:Nat) (A3:Option Addr) (n3 c3:Nat),w.heap[gn]?=some (ndB m (.slice A1 n1 c1) (.slice A2 n2 c2) (.slice A3 n3 c3))
def actT (base gs gm:Nat):Nat→Prop:=fun k=>k=gs∨k=gm∨base≤k
def DoP (base gn:Nat) (w:World) (e:Ending):Ans (Option Nd)→Prop
 | .ok (some n)=>e=.returned (.tuple #[.bool true,.int .i64 0])∧Lf base gn n w∧n.Sm 231∧n.Fit
 | .ok none=>e=.returned (.tuple #[.bool false,.int .i64 0])∧NdA gn w
 | .err x=>e=.returned (.tuple #[.bool false,.int .i64 x])∧NdA gn w
theorem Lf.any {base gn:Nat} {n:Nd} {w:World} (h:Lf base gn n w):NdA gn w:=by
 obtain ⟨vk,vc,vd,h0,h1,h2,h3,_⟩:=h.is
 obtain ⟨A1,c1,rfl⟩:=h1.form
 obtain ⟨A2,c2,rfl⟩:=h2.form
 obtain ⟨A3,c3,rfl⟩:=h3.form
 exact ⟨n,A1,_,c1,A2,_,c2,A3,_,c3,h0⟩
theorem Lf.ch {base gn:Nat} {n:Nd} {w w':World} {S:Nat→Prop} (h:Lf base gn n w) (hc:Ch S w w') (hs:∀ k,base≤k→¬ S k) (hg:¬ S gn):Lf base gn n w':=by
 obtain ⟨vk,vc,vd,h0,h1,h2,h3,h4⟩:=h.is
 exact ⟨vk,vc,vd,hc.keep h0 hg,h1.ch hc (fun k hk=>hs k (h1.lt k hk).1),h2.ch hc (fun k hk=>hs k (h2.lt k hk).1),h3.ch hc (fun k hk=>hs k (h3.lt k hk).1),h4⟩
theorem Lf.keep {base gn:Nat} {n:Nd} {w w':World} (h:Lf base gn n w) (hb:Below w.heap.size w w'):Lf base gn n w':=h.ch (S:=fun _=>False) (Ch.of_below hb) (fun _ _=>id) id
theorem Lf.lt {base gn:Nat} {n:Nd} {w:World} (h:Lf base gn n w):gn<w.heap.size:=by
 obtain ⟨_,_,_,h0,_⟩:=h.is
 exact blk_lt h0
theorem Lf.forms {base gn:Nat} {n:Nd} {w:World} (h:Lf base gn n w):∃ A1 c1 A2 c2 A3 c3,w.heap[gn]?=some (ndB n (.slice A1 n.keys.length c1) (.slice A2 n.cells.length c2) (.slice A3 n.kids.length c3))∧Own sC 1 9 base w (.slice A1 n.keys.length c1) n.keys∧Own cC 3 119 base w (.slice A2 n.cells.length c2) n.cells∧Own iC 1 3 base w (.slice A3 n.kids.length c3) n.kids∧
  Dis (.slice A1 n.keys.length c1) (.slice A2 n.cells.length c2)∧Dis (.slice A1 n.keys.length c1) (.slice A3 n.kids.length c3)∧Dis (.slice A2 n.cells.length c2) (.slice A3 n.kids.length c3)∧Ne (.slice A1 n.keys.length c1) gn∧Ne (.slice A2 n.cells.length c2) gn∧Ne (.slice A3 n.kids.length c3) gn:=by
 obtain ⟨vk,vc,vd,h0,h1,h2,h3,h4⟩:=h.is
 obtain ⟨A1,c1,rfl⟩:=h1.form
 obtain ⟨A2,c2,rfl⟩:=h2.form
 obtain ⟨A3,c3,rfl⟩:=h3.form
 exact ⟨A1,c1,A2,c2,A3,c3,h0,h1,h2,h3,h4⟩
theorem NdV.of_own {w:World} {n:Nd} {base:Nat} {vk vc vd:Value} (h1:Own sC 1 9 base w vk n.keys) (h2:Own cC 3 119 base w vc n.cells) (h3:Own iC 1 3 base w vd n.kids):NdV w (.agg #[.bool n.leaf,vk,vc,vd]) n:=⟨vk,vc,vd,rfl,h1.sl sC_len,h2.sl cC_len,h3.sl iC_len⟩
structure Cap (base g1 g2 gs gm:Nat) (k:By) (w:World):Prop where
 k:w.heap[g1]?=some (.cells #[.string (mkS k)] 9 (0,0))
 p:w.heap[g2]?=some (.cells #[shV gs] 107 (0,0))
 l1:g1<base
 l2:g2<base
 n1:g1≠gs
 n2:g1≠gm
 n3:g2≠gs
 n4:g2≠gm
theorem Cap.ch {base g1 g2 gs gm:Nat} {k:By} {w w':World} {S:Nat→Prop} (h:Cap base g1 g2 gs gm k w) (hc:Ch S w w') (h1:¬ S g1) (h2:¬ S g2):Cap base g1 g2 gs gm k w':=⟨hc.keep h.k h1,hc.keep h.p h2,h.l1,h.l2,h.n1,h.n2,h.n3,h.n4⟩
theorem Cap.mono {base base' g1 g2 gs gm:Nat} {k:By} {w:World} (h:Cap base g1 g2 gs gm k w) (hb:base≤base'):Cap base' g1 g2 gs gm k w:=⟨h.k,h.p,Nat.lt_of_lt_of_le h.l1 hb,Nat.lt_of_lt_of_le h.l2 hb,h.n1,h.n2,h.n3,h.n4⟩
theorem is_lt {n:Nd} {k:By} (h:isN n.keys k=true) (hf:n.Fit) (hl:n.leaf=true):lbN n.keys k<n.keys.length∧lbN n.keys k<n.cells.length:=by
 have:=(is_spec h).1
 have:=(hf.c hl).1
 exact ⟨by omega,by omega⟩
theorem lb_le (n:Nd) (k:By):lbN n.keys k≤n.keys.length:=(List.takeWhile_sublist _).length_le
theorem mem_erase {α:Type} {l:List α} {i:Nat} {x:α} (h:x ∈ l.eraseIdx i):x ∈ l:=(List.eraseIdx_sublist l i).mem h
theorem put_sm {n:Nd} {i:Nat} {k:By} {c:Ce} (h:n.Sm 230) (hk:k.length≤64) (hc:c.data.length≤40) (hi:i≤n.keys.length) (hi2:i≤n.cells.length):Nd.Sm 231 { n with keys:=n.keys.insertIdx i k,cells:=n.cells.insertIdx i c }:=by
 have h1:=h.k
 have h2:=h.c
 have h3:=h.d
 refine ⟨by simp only;rw [List.length_insertIdx_of_le_length hi];omega,by simp only;rw [List.length_insertIdx_of_le_length hi2];omega,by simp only;omega,fun x hx=>?_,fun x hx=>?_⟩
 ·simp only at hx
  rw [ins_eq _ _ _ hi] at hx
  rcases List.mem_append.1 hx with hx | hx
  ·exact h.kl x (List.mem_of_mem_take hx)
  ·rcases List.mem_cons.1 hx with rfl | hx
   ·exact hk
   ·exact h.kl x (List.mem_of_mem_drop hx)
 ·simp only at hx
  rw [ins_eq _ _ _ hi2] at hx
  rcases List.mem_append.1 hx with hx | hx
  ·exact h.cl x (List.mem_of_mem_take hx)
  ·rcases List.mem_cons.1 hx with rfl | hx
   ·exact hc
   ·exact h.cl x (List.mem_of_mem_drop hx)
theorem put_fit {n:Nd} {i:Nat} {k:By} {c:Ce} (h:n.Fit) (hl:n.leaf=true) (hi:i≤n.keys.length):Nd.Fit { n with keys:=n.keys.insertIdx i k,cells:=n.cells.insertIdx i c }:=by
 have h1:=h.c hl
 refine ⟨fun _=>⟨?_,h1.2⟩,fun hh=>?_⟩
 ·simp only
  rw [List.length_insertIdx_of_le_length hi,List.length_insertIdx_of_le_length (by omega)]
  omega
 ·simp only at hh
  rw [hl] at hh
  cases hh
theorem set_sm {n:Nd} {i:Nat} {c:Ce} (h:n.Sm 230) (hc:c.data.length≤40):Nd.Sm 231 { n with cells:=n.cells.set i c }:=by
 have h1:=h.k
 have h2:=h.c
 have h3:=h.d
 refine ⟨by simp only;omega,by simp only;rw [List.length_set];omega,by simp only;omega,h.kl,fun x hx=>?_⟩
 rcases List.mem_or_eq_of_mem_set hx with hx | rfl
 ·exact h.cl x hx
 ·exact hc
theorem set_fit {n:Nd} {i:Nat} {c:Ce} (h:n.Fit) (hl:n.leaf=true):Nd.Fit { n with cells:=n.cells.set i c }:=by
 refine ⟨fun hh=>?_,fun hh=>?_⟩
 ·have:=h.c hl
  simp only
  rw [List.length_set]
  exact this
 ·simp only at hh
  rw [hl] at hh
  cases hh
theorem cellT_data {v:By} {s s':Sf} {c:Ce} (h:(cellT v).run s=(s',.ok c)):c.data.length≤40:=by
 unfold cellT at h
 split at h
 ·cases h
 ·split at h
  ·rename_i hl
   injection h with _ h
   injection h with h
   rw [← h]
   exact hl
  ·rw [run_bind] at h
   split at h
   ·injection h with _ h
    injection h with h
    rw [← h]
    exact Nat.zero_le _
   ·cases h
theorem layT_nz (v:By):∀ (j:Nat) (n:Int),(layT v j n).NZ
 | 0,_=>trivial
 | j+1,_=>fun m=>layT_nz v j m
theorem cellT_nz (v:By):(cellT v).NZ:=by
 unfold cellT
 split
 ·exact show (47:Int)≠0 by decide
 ·split
  ·trivial
  ·exact Pro.NZ.bind _ _ (layT_nz v _ _) (fun _=>trivial)
end Go.Proofs.YtknioodagnjchaaGreatDoor
