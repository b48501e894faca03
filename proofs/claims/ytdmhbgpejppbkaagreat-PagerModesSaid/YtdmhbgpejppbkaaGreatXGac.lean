/- Slices that the call itself made and grows: an owned row of elements; append onto it from a slice that reads as a list. A region that draws its order and holds calls that only make new memory: walked once, in the text's order, in any world above the one at hand. -/
import Derived.Test.YtdmhbgpejppbkaaGreatXGab
import Derived.Maps.AppendAt
import Derived.Deep.AppendLies
namespace Go.Proofs.YtdmhbgpejppbkaaGreat
open Go.RowKit
def Own {α:Type} (f:α→List Value) (size:Nat) (e:TypeId) (base:Nat) (w:World) (v:Value) (xs:List α):Prop:=
 w.ownsRow base e size v xs.length (xs.flatMap f)
structure ElemT {α:Type} (P:Program) (t e:TypeId) (f:α→List Value) (size bytes:Nat):Prop where
 ht:P.underlying t=some (.slice e)
 hi:∃ i z,P.info? e=some i∧i.zero=some z∧i.size=size∧i.bytes=bytes∧z.cells.size=size
 hp:0<size
 hl:∀ x,(f x).length=size
 h1:∀ x,∀ u ∈ f x,u.oneCell'=true
theorem ElemT.mk' {α:Type} {P:Program} {t e:TypeId} {f:α→List Value} {size bytes:Nat} {z:Value} (ht:P.underlying t=some (.slice e)) (h:(P.info? e).map (fun i=>(i.zero,i.size,i.bytes))=some (some z,size,bytes))
  (hz:z.cells.size=size) (hp:0<size) (hl:∀ x,(f x).length=size) (h1:∀ x,∀ u ∈ f x,u.oneCell'=true):ElemT P t e f size bytes:=by
 obtain ⟨i0,hi,hz0,hz1,hz2⟩:=info_parts h;exact ⟨ht,⟨i0,z,hi,hz0,hz1,hz2,hz⟩,hp,hl,h1⟩
section
variable {α:Type} {f:α→List Value} {size:Nat} {e:TypeId} {base:Nat} {w w':World} {v:Value} {xs ys:List α}
theorem dw {α:Type} (f:α→List Value) (size:Nat) (hsz:∀ x,(f x).length=size) (xs:List α):(xs.flatMap f).length=xs.length * size:=by
 induction xs with
 | nil=>simp
 | cons x xs ih=>rw [List.flatMap_cons,List.length_append,ih,hsz,List.length_cons,Nat.succ_mul];omega
theorem Own.nil:Own f size e base w (.slice none 0 0) ([]:List α):=World.ownsRow_nil w base e size
theorem Own.sl (h:Own f size e base w v xs) (hsz:∀ x,(f x).length=size):Sl f size w v xs:=by
 rcases h.2 with ⟨hv,h0⟩ | ⟨g,cap,cur,hv,hb,hg,hn,hm,hc,ht⟩
 ·have:xs=[]:=List.eq_nil_of_length_eq_zero h0;subst this;exact hv ▸ Sl.nil
 ·refine ⟨_,_,hv,fun _=>⟨g,0,rfl,?_,fun i x hx j u hu=>?_⟩⟩
  ·rcases Nat.lt_or_ge g w.heap.size with hlt | hge
   ·exact hlt
   ·rw [Array.getElem?_eq_none hge] at hg;cases hg
  ·have h1:=gU f size hsz xs i x hx j u hu;rw [← ht,List.getElem?_take] at h1
   split at h1
   ·simp only [World.cell?,hg,Nat.zero_add,Option.isSome_none,Bool.false_eq_true,if_false];simpa using h1
   ·cases h1
theorem Own.alloc (h:Own f size e base w v xs) (o:Obj):Own f size e base (w.alloc o) v xs:=World.ownsRow.alloc h o
theorem Own.lt (h:Own f size e base w v xs):∀ k,v.ownBlock=some k→base≤k∧k<w.heap.size:=World.ownsRow.lt h
theorem Own.below (h:Own f size e base w v xs) (hb:Below w.heap.size w w'):Own f size e base w' v xs:=
 World.ownsRow.kept (row:=none) h ⟨hb.os,hb.tape,hb.output,hb.size,fun k hk _=>hb.block k hk⟩ (by by_cases h0:v.ownBlock=none;exact .inl h0;exact .inr h0)
theorem Own.kept {v2:Value} (h:Own f size e base w v xs) (hg:w.grownBy w' v2.ownBlock) (hne:v.ownBlock=none∨v.ownBlock≠v2.ownBlock):Own f size e base w' v xs:=World.ownsRow.kept h hg hne
theorem Sl.len (h:Sl f size w v xs):∃ A c,v=.slice A xs.length c:=by obtain ⟨A,c,h,_⟩:=h;exact ⟨A,c,h⟩
theorem aZ {P:Program} {t:TypeId} {bytes:Nat} (T:ElemT P t e f size bytes) (ty:TypeId) (hown:Own f size e base w v xs) {y:Value} (hy:Sl f size w y ys)
  (h63:xs.length+ys.length≤maxLen) (hbytes:(xs.length+ys.length) * bytes≤140737488355328) (hbase:base≤w.heap.size):
  ∃ v' w',(Builtin.append_ #[t,t] ty #[v,y]).run P w=.ok v' w'∧Own f size e base w' v' (xs ++ ys)∧w.grownBy w' v.ownBlock∧(v'.ownBlock=v.ownBlock∨v'.ownBlock=some w.heap.size):=by
 obtain ⟨ht,⟨i,z,hi,hz,hs,hb,hzs⟩,hp,hl,h1⟩:=T;have fin:∀ {v':Value} {w':World},w'.ownsRow base e size v' (xs.length+ys.length) (xs.flatMap f ++ ys.flatMap f)→Own f size e base w' v' (xs ++ ys):=by intro v' w' h;unfold Own;rw [List.length_append,List.flatMap_append];exact h
 rcases hy.cases with ⟨A,c,rfl,rfl⟩ | ⟨b,off,c,rfl,hne,hlt,hy'⟩
 ·rcases A with _ | ad
  ·have hrun:(Builtin.append_ #[t,t] ty #[v,.slice none 0 c]).run P w=.ok v w:=by
    rcases hown.2 with ⟨hv,h0⟩ | ⟨g,cap,cur,hv,_,_,hnc,_⟩
    ·have e0:xs=[]:=List.eq_nil_of_length_eq_zero h0;rw [hv];simp [Builtin.append_,run_underlying ht,sizeOf,typeInfo,hi,Builtin.lenOf,Builtin.firstCells]
    ·rw [hv];simp [Builtin.append_,run_underlying ht,sizeOf,typeInfo,hi,Builtin.lenOf,Builtin.firstCells,hnc,storeCells]
   exact ⟨v,w,hrun,by simpa using hown,⟨rfl,rfl,rfl,Nat.le_refl _,fun _ _ _=>rfl⟩,.inl rfl⟩
  ·obtain ⟨v',w',hr,h2,h3,_,h5⟩:=run_append_own_at (P:=P) w base t ty e i z size bytes ht hi hz hs hb hzs hp v xs.length (xs.flatMap f) hown ad 0 c [] (by simp) (by simp) (by simp) h63 hbytes hbase;exact ⟨v',w',hr,fin (by simpa using h2),h3,h5⟩
 ·have hcells:∀ j u,(ys.flatMap f)[j]?=some u→w.cell? ((⟨b,off,none⟩:Addr).add j)=some u:=by
   intro j u hu;have hj:j<ys.length * size:=by
    rcases Nat.lt_or_ge j (ys.flatMap f).length with h | h
    ·rwa [dw f size hl] at h
    ·rw [List.getElem?_eq_none h] at hu;cases hu
   have hq:j / size<ys.length:=by rw [Nat.div_lt_iff_lt_mul hp];exact hj
   obtain ⟨_,hc⟩:=hy'.cells hq;have hm:=Nat.div_add_mod j size;have hr:=Nat.mod_lt j hp;have hx:=gU f size hl ys (j / size) ys[j / size] (List.getElem?_eq_getElem hq) (j % size) ((f ys[j / size])[j % size]'(by rw [hl];exact hr)) (List.getElem?_eq_getElem _);rw [show j / size * size+j % size=j from by rw [Nat.mul_comm];exact hm] at hx;have hu':=hx.symm.trans hu;injection hu' with hu'
   have:=hc (j % size) _ (List.getElem?_eq_getElem (by rw [hl];exact hr));rw [hu',show off+j / size * size+j % size=off+j from by rw [Nat.add_assoc,Nat.mul_comm (j / size),hm]] at this;unfold Addr.add
   split
   ·rename_i h0;subst h0;exact this
   ·exact this
  obtain ⟨v',w',hr,h2,h3,_,h5⟩:=run_append_own_at (P:=P) w base t ty e i z size bytes ht hi hz hs hb hzs hp v xs.length (xs.flatMap f) hown ⟨b,off,none⟩ ys.length c (ys.flatMap f) (dw f size hl ys) hcells
   (fun u hu=>by obtain ⟨x,_,hx⟩:=List.mem_flatMap.1 hu;exact h1 x u hx) h63 hbytes hbase
  exact ⟨v',w',hr,fin h2,h3,h5⟩
theorem dx {P:Program} {ops:Array Oper} {rest:List Oper} {o:Oper} {a:Act} {Q:Exit→Act→World→Prop} (hgd:o.guard=none) {s x:Operand} {t:TypeId}
  (ho:o.op=.call { callee:=.builtin .append,args:=#[s,x],argTypes:=#[t,t] }) {bytes:Nat} (T:ElemT P t e f size bytes) {y:Value} (hs:a.eval s=v) (hx:a.eval x=y)
  (hown:Own f size e base w v xs) (hy:Sl f size w y ys)
  (h63:xs.length+ys.length≤maxLen) (hbytes:(xs.length+ys.length) * bytes≤140737488355328) (hbase:base≤w.heap.size)
  (h:∀ v' w',Own f size e base w' v' (xs ++ ys)→w.grownBy w' v.ownBlock→(v'.ownBlock=v.ownBlock∨v'.ownBlock=some w.heap.size)→wpList P ops Q rest (a.put o.dst v') w'):wpList P ops Q (o :: rest) a w:=by
 refine wpList_plain hgd fun K hK=>?_
 obtain ⟨v',w',hr,h2,h3,h5⟩:=aZ (P:=P) T o.type hown hy h63 hbytes hbase;unfold Oper.wp execOp;simp only [ho,resolve,invoke,builtin,Sem.run_bind,Sem.run_pure,Result.andThen_ok,List.map_toArray,List.map_cons,List.map_nil,hs,hx,hr];exact hK _ _ (h v' w' h2 h3 h5)
end
theorem Sl.one {α:Type} {f:α→List Value} {size:Nat} {w0:World} {g c:Nat} {cs:Array Value} {e:TypeId} (x:α) (hg:g=w0.heap.size) (hsz:∀ x,(f x).length=size) (hcs:cs.toList=f x):
  Sl f size (w0.alloc (.cells cs e)) (.slice (some ⟨g,0,none⟩) 1 c) [x]:=Sl.new hg hsz (by simpa using hcs) rfl
theorem nY {base:Nat} {w0 w w':World} {v:Value} (h:Below base w0 w) (hg:w.grownBy w' v.ownBlock) (hbase:base≤w.heap.size) (hv:∀ k,v.ownBlock=some k→base≤k):Below base w0 w':=h.grown hg hbase hv
def Dis (v1 v2:Value):Prop:=∀ k,v1.ownBlock=some k→v2.ownBlock≠some k
theorem Dis.symm {v1 v2:Value} (h:Dis v1 v2):Dis v2 v1:=fun k h2 h1=>h k h1 h2
theorem Dis.nil {v:Value}:Dis (.slice none 0 0) v:=fun k h=>by cases h
section
variable {α β:Type} {f:α→List Value} {g:β→List Value} {size size2:Nat} {e e2:TypeId} {base base2:Nat} {w w':World} {v v2 v':Value} {xs:List α} {ys:List β}
theorem Own.dis (h:Own f size e base w v xs) (hg:w.grownBy w' v2.ownBlock) (hd:Dis v v2):Own f size e base w' v xs:=
 h.kept hg (by
  by_cases h0:v.ownBlock=none
  ·exact .inl h0
  ·obtain ⟨k,hk⟩:=Option.ne_none_iff_exists'.1 h0;refine .inr fun e=>hd k hk ?_
   rw [← e,hk])
theorem Dis.app (h:Dis v v2) (hat:v'.ownBlock=v.ownBlock∨v'.ownBlock=some w.heap.size) (h2:Own g size2 e2 base2 w v2 ys):Dis v' v2:=by
 intro k hk hk2;rcases hat with hat | hat
 ·exact h k (hat ▸ hk) hk2
 ·rw [hat] at hk;injection hk with hk
  have:=(h2.lt k hk2).2;omega
end
theorem Sl.dis {α:Type} {f:α→List Value} {size:Nat} {w w':World} {v v2:Value} {xs:List α} (h:Sl f size w v xs) (hg:w.grownBy w' v2.ownBlock) (hd:Dis v v2):Sl f size w' v xs:=by obtain ⟨A,c,rfl,h⟩:=h;refine ⟨A,c,rfl,fun hne=>?_⟩;obtain ⟨b,off,rfl,hlt,hc⟩:=h hne;have hb:w'.heap[b]?=w.heap[b]?:=hg.block b hlt (fun e=>hd b rfl e.symm);refine ⟨b,off,rfl,Nat.lt_of_lt_of_le hlt hg.size,fun i x hx j u hu=>?_⟩;rw [World.cell?_of_block (a:=⟨b,off+i * size+j,none⟩) hb];exact hc i x hx j u hu
theorem Sl.alloc {α:Type} {f:α→List Value} {size:Nat} {w:World} {v:Value} {xs:List α} (h:Sl f size w v xs) (o:Obj):Sl f size (w.alloc o) v xs:=h.keep ((Below.refl _ _).alloc (Nat.le_refl _) o)
theorem New.dis {α:Type} {f:α→List Value} {size:Nat} {e:TypeId} {base:Nat} {w:World} {v v2:Value} {xs:List α} (h:New w v) (h2:Own f size e base w v2 xs):Dis v v2:=fun k h1 hk=>by
 have:=h k h1;have:=(h2.lt k hk).2;omega
theorem Below.hlt {w w':World} (h:Below w.heap.size w w'):w.heap.size≤w'.heap.size:=h.size
end Go.Proofs.YtdmhbgpejppbkaaGreat
namespace Go.Proofs.YtdmhbgpejppbkaaGreat
open Go.RowKit
theorem af {w0:World} {o:Obj} {g:Nat} (h:g=w0.heap.size):(w0.alloc o).heap[g]?=some o:=by subst h;exact heap_alloc_new _ _
theorem aB {w w':World} {g:Nat} {o:Obj} (h:w.heap[g]?=some o) (hb:Below w.heap.size w w'):w'.heap[g]?=some o:=by
 rw [hb.block g ?_]
 ·exact h
 ·rcases Nat.lt_or_ge g w.heap.size with hlt | hge
  ·exact hlt
  ·rw [Array.getElem?_eq_none hge] at h;cases h
theorem ae {w:World} {g:Nat} {cs:Array Value} {e:TypeId} (h:w.heap[g]?=some (.cells cs e (0,0))) (i:Nat) (u:Value):(w.setCell ⟨g,i,none⟩ u).heap[g]?=some (.cells (cs.setIfInBounds i u) e (0,0)):=by simp [World.setCell,Array.getElem?_modify,h]
theorem aa {w:World} {g:Nat} {cs:Array Value} {e:TypeId} (h:w.heap[g]?=some (.cells cs e (0,0))) (i:Nat):w.cell? ⟨g,i,none⟩=cs[i]?:=by simp [World.cell?,h]
theorem ah {w:World} {g:Nat} {cs:Array Value} {e:TypeId} (h:w.heap[g]?=some (.cells cs e (0,0))) (i:Nat):w.frozen? ⟨g,i,none⟩=false:=by simp [World.frozen?,h]
theorem ab {w:World} {g:Nat} {o:Obj} (h:w.heap[g]?=some o):g<w.heap.size:=by
 rcases Nat.lt_or_ge g w.heap.size with hlt | hge
 ·exact hlt
 ·rw [Array.getElem?_eq_none hge] at h;cases h
theorem ar {w:World} {g:Nat} {o:Obj} (h:w.heap[g]?=some o) (o':Obj):(w.alloc o').heap[g]?=some o:=(Below.heap_alloc w o' g (ab h)).trans h
structure Up (w0:World) where
 w:World
 h:Below w0.heap.size w0 w
instance (w0:World):Nonempty (Up w0):=⟨⟨w0,Below.refl _ _⟩⟩
theorem Up.cell {w0:World} (y:Up w0) (b o:Nat) (h:b<w0.heap.size):y.w.cell? ⟨b,o,none⟩=w0.cell? ⟨b,o,none⟩:=y.h.cell (p:=⟨b,o,none⟩) h
theorem ay {w0:World} {b o:Nat} {v:Value} (h:w0.cell? ⟨b,o,none⟩=some v) (hb:b<w0.heap.size):∀ y:Up w0,y.w.cell? ⟨b,o,none⟩=some v:=fun y=>(y.cell b o hb).trans h
theorem am {P:Program} {id:Nat} {Q:Exit→Act→World→Prop} {a:Act} {w:World} {l:List Oper} (hm:P.follows .mixedOrders=true) (hB:Region.lexB .any l.toArray=true)
  (h:wpQuiet P l.toArray (fun w'=>∃ y:Up w,w'=y.w) (fun a'=>∀ w',(∃ y:Up w,w'=y.w)→Q .normal a' w') l a):(Code.region id l.toArray true).wp P Q a w:=
 wp_region_quiet (C:=fun w'=>∃ y:Up w,w'=y.w) hm hB ⟨⟨w.drew,(Below.refl _ _).drew⟩,rfl⟩ (by simpa using h)
theorem cF {P:Program} {f:FuncId} {args:Array Value} {w0:World} {y:Up w0} {v:Value} (h:Calls P f args y.w fun e w'=>e=.returned v∧Below y.w.heap.size y.w w'):
  Calls P f args y.w fun e w''=>e=.returned v∧∃ z:Up w0,w''=z.w:=
 h.mono fun _ w' ⟨he,hb⟩=>⟨he,⟨w',y.h.trans (hb.mono y.h.size)⟩,rfl⟩
theorem bm {P:Program} {f:FuncId} {args:Array Value} {w0:World} {y:Up w0} {v:Value} (h:Calls P f args y.w fun e w'=>e=.returned v∧y.w=w'):
  Calls P f args y.w fun e w''=>e=.returned v∧∃ z:Up w0,w''=z.w:=
 h.mono fun _ _ ⟨he,hb⟩=>⟨he,y,hb.symm⟩
end Go.Proofs.YtdmhbgpejppbkaaGreat
