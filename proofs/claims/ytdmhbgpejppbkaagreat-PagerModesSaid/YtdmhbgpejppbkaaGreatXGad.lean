/- What a call may have turned; blocks of the call's own. -/
import Derived.Test.YtdmhbgpejppbkaaGreatXGac
import Derived.Lib.Hide
import Derived.Below
namespace Go.Proofs.YtdmhbgpejppbkaaGreat
open Go.RowKit
structure Ch (S:Nat→Prop) (w w':World):Prop where
 os:w'.os=w.os
 tape:w'.tape=w.tape
 output:w'.output=w.output
 size:w.heap.size≤w'.heap.size
 block:∀ k,k<w.heap.size→¬ S k→w'.heap[k]?=w.heap[k]?
theorem Ch.refl (S:Nat→Prop) (w:World):Ch S w w:=⟨rfl,rfl,rfl,Nat.le_refl _,fun _ _ _=>rfl⟩
theorem Ch.mono {S S':Nat→Prop} {w w':World} (h:Ch S w w') (hs:∀ k,k<w.heap.size→S k→S' k):Ch S' w w':=⟨h.os,h.tape,h.output,h.size,fun k hk hn=>h.block k hk fun hh=>hn (hs k hk hh)⟩
theorem Ch.trans {S:Nat→Prop} {a b c:World} (h:Ch S a b) (k:Ch S b c):Ch S a c:=
 ⟨k.os.trans h.os,k.tape.trans h.tape,k.output.trans h.output,Nat.le_trans h.size k.size,fun i hi hn=>(k.block i (Nat.lt_of_lt_of_le hi h.size) hn).trans (h.block i hi hn)⟩
theorem Ch.then {S S':Nat→Prop} {a b c:World} (h:Ch S a b) (k:Ch S' b c) (hs:∀ i,S' i→S i∨a.heap.size≤i):Ch S a c:=
 ⟨k.os.trans h.os,k.tape.trans h.tape,k.output.trans h.output,Nat.le_trans h.size k.size,fun i hi hn=>(k.block i (Nat.lt_of_lt_of_le hi h.size) fun hh=>(hs i hh).elim hn (by omega)).trans (h.block i hi hn)⟩
theorem Ch.of_below {S:Nat→Prop} {w w':World} (h:Below w.heap.size w w'):Ch S w w':=⟨h.os,h.tape,h.output,h.size,fun k hk _=>h.block k hk⟩
theorem Ch.of_grown {S:Nat→Prop} {w w':World} {row:Option Nat} (h:w.grownBy w' row) (hr:∀ k,row=some k→S k):Ch S w w':=⟨h.os,h.tape,h.output,h.size,fun k hk hn=>h.block k hk fun e=>hn (hr k e.symm)⟩
theorem Ch.below {S:Nat→Prop} {w w':World} {B:Nat} (h:Ch S w w') (hB:B≤w.heap.size) (hs:∀ k,S k→B≤k):Below B w w':=⟨h.os,h.tape,h.output,h.size,fun k hk=>h.block k (by omega) fun hh=>by have:=hs k hh;omega⟩
theorem Ch.alloc {S:Nat→Prop} {a w:World} (h:Ch S a w) (o:Obj):Ch S a (w.alloc o):=h.then (S':=fun _=>False) (Ch.of_below ((Below.refl _ w).alloc (Nat.le_refl _) o)) (fun _ h=>h.elim)
theorem Ch.drew {S:Nat→Prop} {a w:World} (h:Ch S a w):Ch S a w.drew:=⟨h.os,h.tape,h.output,h.size,h.block⟩
theorem Ch.drewN {S:Nat→Prop} {a w:World} (h:Ch S a w) (n:Nat):Ch S a (w.drewN n):=⟨h.os,h.tape,h.output,h.size,h.block⟩
theorem Ch.setCell {S:Nat→Prop} {a w:World} (h:Ch S a w) {p:Addr} (hp:S p.block) (u:Value):Ch S a (w.setCell p u):=
 h.trans ⟨rfl,rfl,rfl,by simp [World.setCell],fun k _ hn=>Below.heap_setCell _ _ _ _ (fun e=>hn (e ▸ hp))⟩
theorem Ch.keep {S:Nat→Prop} {w w':World} {g:Nat} {o:Obj} (h:Ch S w w') (hg:w.heap[g]?=some o) (hn:¬ S g):w'.heap[g]?=some o:=
 (h.block g (ab hg) hn).trans hg
theorem Ch.cell {S:Nat→Prop} {w w':World} {a:Addr} {v:Value} (h:Ch S w w') (hg:w.cell? a=some v) (hn:¬ S a.block):w'.cell? a=some v:=
 (World.cell?_of_block (h.block a.block (World.block_lt_of_cell? w a hg) hn)).trans hg
theorem Own.ch {α:Type} {f:α→List Value} {size:Nat} {e:TypeId} {base:Nat} {w w':World} {v:Value} {xs:List α} {S:Nat→Prop} (h:Own f size e base w v xs) (hc:Ch S w w') (hn:∀ k,v.ownBlock=some k→¬ S k):Own f size e base w' v xs:=by
 refine ⟨h.1,?_⟩;rcases h.2 with h2 | ⟨g,cap,cur,hv,hb,hg,rest⟩
 ·exact .inl h2
 ·refine .inr ⟨g,cap,cur,hv,hb,hc.keep hg (hn g (by rw [hv];rfl)),rest⟩
theorem dV {α:Type} {f:α→List Value} {size:Nat} {w w':World} {v:Value} {xs:List α} {S:Nat→Prop} (h:Sl f size w v xs) (hc:Ch S w w') (hn:∀ k,v.ownBlock=some k→¬ S k):Sl f size w' v xs:=by obtain ⟨A,c,rfl,h⟩:=h;refine ⟨A,c,rfl,fun hne=>?_⟩;obtain ⟨b,off,rfl,hlt,hx⟩:=h hne;have hb:w'.heap[b]?=w.heap[b]?:=hc.block b hlt (hn b rfl);refine ⟨b,off,rfl,Nat.lt_of_lt_of_le hlt hc.size,fun i x hx' j u hu=>?_⟩;rw [World.cell?_of_block (a:=⟨b,off+i * size+j,none⟩) hb];exact hx i x hx' j u hu
section
variable {α:Type} {f:α→List Value} {size:Nat} {e:TypeId} {base:Nat} {w:World} {v:Value} {xs ys:List α}
theorem dh {P:Program} {ops:Array Oper} {o:Oper} {a:Act} {K:Act→World→Prop} {Q:Exit→Act→World→Prop} {E:Prop} (hgd:o.guard=none) {s x:Operand} {t:TypeId}
  (ho:o.op=.call { callee:=.builtin .append,args:=#[s,x],argTypes:=#[t,t] }) {bytes:Nat} (T:ElemT P t e f size bytes) {y:Value} (hs:a.eval s=v) (hx:a.eval x=y)
  (hown:Own f size e base w v xs) (hy:Sl f size w y ys)
  (h63:xs.length+ys.length≤maxLen) (hbytes:(xs.length+ys.length) * bytes≤140737488355328) (hbase:base≤w.heap.size)
  (h:∀ v' w',Own f size e base w' v' (xs ++ ys)→w.grownBy w' v.ownBlock→(v'.ownBlock=v.ownBlock∨v'.ownBlock=some w.heap.size)→K (a.put o.dst v') w'):
  if Region.wanted o (yielded ops a.tmps)=true then Oper.wp P o a w K Q else E:=by
 have hw:Region.wanted o (yielded ops a.tmps)=true:=by simp [Region.wanted,hgd]
 rw [if_pos hw];obtain ⟨v',w',hr,h2,h3,h5⟩:=aZ (P:=P) T o.type hown hy h63 hbytes hbase;unfold Oper.wp execOp;simp only [ho,resolve,invoke,builtin,Sem.run_bind,Sem.run_pure,Result.andThen_ok,List.map_toArray,List.map_cons,List.map_nil,hs,hx,hr];exact h v' w' h2 h3 h5
end
end Go.Proofs.YtdmhbgpejppbkaaGreat
