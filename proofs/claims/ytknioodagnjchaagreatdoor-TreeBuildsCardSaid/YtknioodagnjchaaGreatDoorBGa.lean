/- Plain notions on memory: a slice value that reads as a list of rows of cells; kept over new memory. Slices that the call itself made and grows: an owned row of elements; append onto it from a slice that reads as a list. A region that draws its order and holds calls that only make new memory: walked once, in the text's order, in any world above the one at hand. What a call may have turned; blocks of the call's own. num.Fixed, num.Unfixed; the reference's. cahierref01.Fixed, cahierref04.Full; strings as lists of bytes. -/
import Derived.Test.YtknioodagnjchaaGreatDoorRows
import Derived.WalkKit
import Derived.WalkSpells
import Derived.WalkLawsBesides
import Derived.Handy
import Derived.Lib.Hide
import Derived.BigQuiet
import Derived.Deep.QuietTactic
import Derived.Maps.AppendAt
import Derived.Deep.AppendLies
import Derived.Below
import Derived.Laws.BytesArg
import Derived.Lib.ConvBytes
import Derived.WalkArith
import Derived.IntWalk
import Derived.Laws.BitsAllLaws
import Derived.Laws.OwnMore
set_option maxRecDepth 100000
namespace Go.Proofs.YtknioodagnjchaaGreatDoor
open Go.RowKit
def Sl {α:Type} (f:α->List Value) (size:Nat) (w:World) (v:Value) (xs:List α):Prop:=
 ∃ A c,v=.slice A xs.length c/\(xs≠[]->∃ b off,A=some ⟨b,off,none⟩/\b<w.heap.size/\
   ∀ i x,xs[i]?=some x->∀ j u,(f x)[j]?=some u->w.cell? ⟨b,off+i * size+j,none⟩=some u)
section
variable {α:Type} {f:α->List Value} {size:Nat} {w w':World} {v:Value} {xs:List α}
theorem Sl.keep (h:Sl f size w v xs) (hb:Below w.heap.size w w'):Sl f size w' v xs:=by obtain ⟨A,c,rfl,h⟩:=h;refine ⟨A,c,rfl,fun hne=>?_⟩;obtain ⟨b,off,rfl,hlt,hc⟩:=h hne;refine ⟨b,off,rfl,Nat.lt_of_lt_of_le hlt hb.size,fun i x hx j u hu=>?_⟩;rw [hb.cell (p:=⟨b,off+i * size+j,none⟩) hlt];exact hc i x hx j u hu
theorem Sl.nil:Sl f size w (.slice none 0 0) ([]:List α):=⟨none,0,rfl,fun h=>absurd rfl h⟩
theorem Sl.cells {b off n c k:Nat} (h:Sl f size w (.slice (some ⟨b,off,none⟩) n c) xs) (hk:k<xs.length):
  b<w.heap.size/\∀ j u,(f xs[k])[j]?=some u->w.cell? ⟨b,off+k * size+j,none⟩=some u:=by
 obtain ⟨A,c',he,h⟩:=h;have hne:xs≠[]:=by intro e;subst e;simp at hk
 obtain ⟨b',off',rfl,hlt,hc⟩:=h hne;injection he with e1 e2 e3
 injection e1 with e1
 injection e1 with e4 e5 e6
 subst e4 e5;exact ⟨hlt,fun j u hu=>hc k xs[k] (List.getElem?_eq_getElem hk) j u hu⟩
theorem Sl.zM (h:Sl f size w v xs):∃ A c,v=.slice A xs.length c:=by obtain ⟨A,c,h,_⟩:=h;exact ⟨A,c,h⟩
theorem Sl.cases (h:Sl f size w v xs):(∃ A c,v=.slice A 0 c/\xs=[])\/∃ b off c,v=.slice (some ⟨b,off,none⟩) xs.length c/\xs≠[]/\b<w.heap.size/\Sl f size w (.slice (some ⟨b,off,none⟩) xs.length c) xs:=by
 have h0:=h;obtain ⟨A,c,rfl,h⟩:=h;by_cases hne:xs=[]
 ·subst hne;exact .inl ⟨A,c,rfl,rfl⟩
 ·obtain ⟨b,off,rfl,hlt,hc⟩:=h hne;exact .inr ⟨b,off,c,rfl,hne,hlt,h0⟩
theorem mf {α:Type} (f:α->List Value) (size:Nat) (hsz:∀ x,(f x).length=size):∀ (xs:List α) (i:Nat) (x:α),xs[i]?=some x->∀ j u,(f x)[j]?=some u->(xs.flatMap f)[i * size+j]?=some u:=by
 intro xs
 induction xs with
 | nil=>intro i x h;simp at h
 | cons y ys ih=>
   intro i x h j u hu;have hj:j<(f x).length:=by
    rcases Nat.lt_or_ge j (f x).length with h | h
    ·exact h
    ·rw [List.getElem?_eq_none h] at hu;cases hu
   cases i with
   | zero=> simp at h;subst h;rw [List.flatMap_cons,List.getElem?_append_left (by omega)];simpa using hu
   | succ i=> simp at h;have:=hsz y;rw [List.flatMap_cons,List.getElem?_append_right (by rw [this,Nat.succ_mul];omega)];rw [show (i+1) * size+j - (f y).length=i * size+j from by rw [this,Nat.succ_mul];omega];exact ih i x h j u hu
theorem Sl.Ad {g n c:Nat} {cs:Array Value} {e:TypeId} {fz:Nat × Nat} (hg:w.heap[g]?=some (.cells cs e fz)) (hsz:∀ x,(f x).length=size) (hcs:cs.toList=xs.flatMap f) (hn:n=xs.length):
  Sl f size w (.slice (some ⟨g,0,none⟩) n c) xs:=by
 subst hn;refine ⟨_,_,rfl,fun _=>⟨_,_,rfl,?_,fun i x hx j u hu=>?_⟩⟩
 ·rcases Nat.lt_or_ge g w.heap.size with hlt | hge
  ·exact hlt
  ·rw [Array.getElem?_eq_none hge] at hg;cases hg
 ·have h1:=mf f size hsz xs i x hx j u hu;rw [<- hcs] at h1;simp only [World.cell?,hg,Nat.zero_add,Option.isSome_none,Bool.false_eq_true,if_false];simpa using h1
theorem Sl.new {w0:World} {g n c:Nat} {cs:Array Value} {e:TypeId} (hg:g=w0.heap.size) (hsz:∀ x,(f x).length=size) (hcs:cs.toList=xs.flatMap f) (hn:n=xs.length):
  Sl f size (w0.alloc (.cells cs e)) (.slice (some ⟨g,0,none⟩) n c) xs:=by
 subst hg;exact Sl.Ad (heap_alloc_new _ _) hsz hcs hn
end
structure C where
 name:ByteArray
 kind:Int
 null:Bool
 uniq:Bool
 ref:Int
structure E where
 kind:Int
 name:ByteArray
 table:Int
 col:Int
 root:Int
section
variable {w:World} {b o:Nat}
end
def dL {α:Type} (p:α->Bool) (xs:List α):Int:=if xs.findIdx p<xs.length then (xs.findIdx p:Int) else -1
theorem jL {α:Type} {p:α->Bool} {xs:List α} {k:Nat} (hk:k<xs.length) (h:p xs[k]=true) (hn:∀ j (h:j<xs.length),j<k->p xs[j]=false):dL p xs=k:=by have e:xs.findIdx p=k:=(List.findIdx_eq hk).2 ⟨h,fun j hj=>hn j (by omega) hj⟩;unfold dL;rw [e,if_pos hk]
theorem iA {α:Type} {p:α->Bool} {xs:List α} {k:Nat} (hk:¬ k<xs.length) (hn:∀ j (h:j<xs.length),j<k->p xs[j]=false):dL p xs=-1:=by
 have e:xs.findIdx p=xs.length:=List.findIdx_eq_length.2 fun x hx=>by
  obtain ⟨j,hj,rfl⟩:=List.getElem_of_mem hx;exact hn j hj (by omega)
 unfold dL;rw [e,if_neg (by omega)]
theorem oj {k:IntKind} {a b:Int} (h:a=b):Ending.returned (.int k a)=.returned (.int k b):=by rw [h]
theorem qt {a b:Bool} (h:a=b):Ending.returned (.bool a)=.returned (.bool b):=by rw [h]
theorem sf {α:Type} {p:α->Bool} {xs:List α} {k:Nat} (hn:∀ j (h:j<xs.length),j<k->p xs[j]=false) (hk:k<xs.length) (h:p xs[k]=false):∀ j (h:j<xs.length),j<k+1->p xs[j]=false:=by
 intro j hj hlt;by_cases e:j=k
 ·subst e;exact h
 ·exact hn j hj (by omega)
theorem pW {w w1 w2:World} (h:Below w.heap.size w w1) (h2:Below w1.heap.size w1 w2):Below w.heap.size w w2:=h.trans (h2.mono h.size)
end Go.Proofs.YtknioodagnjchaaGreatDoor
namespace Go.Proofs.YtknioodagnjchaaGreatDoor
open Go renaming Value->Bt,bytes->Bz,TypeId->BA,World->BD
open List renaming getElem?_eq_getElem->Bv,eq_nil_of_length_eq_zero->Bw,length_append->BB
open Go.Builtin renaming append_->Bx,firstCells->BC,lenOf->BE
open Go.RowKit
def Own {α:Type} (f:α->List Bt) (size:Nat) (e:BA) (base:Nat) (w:BD) (v:Bt) (xs:List α):Prop:=
 w.ownsRow base e size v xs.length (xs.flatMap f)
structure ElemT {α:Type} (P:Program) (t e:BA) (f:α->List Bt) (size Bz:Nat):Prop where
 ht:P.underlying t=some (.slice e)
 hi:∃ i z,P.info? e=some i/\i.zero=some z/\i.size=size/\i.bytes=Bz/\z.cells.size=size
 hp:0<size
 hl:∀ x,(f x).length=size
 h1:∀ x,∀ u ∈ f x,u.oneCell'=true
theorem ElemT.mk' {α:Type} {P:Program} {t e:BA} {f:α->List Bt} {size Bz:Nat} {z:Bt} (ht:P.underlying t=some (.slice e)) (h:(P.info? e).map (fun i=>(i.zero,i.size,i.bytes))=some (some z,size,Bz))
  (hz:z.cells.size=size) (hp:0<size) (hl:∀ x,(f x).length=size) (h1:∀ x,∀ u ∈ f x,u.oneCell'=true):ElemT P t e f size Bz:=by
 obtain ⟨i0,hi,hz0,hz1,hz2⟩:=info_parts h;exact ⟨ht,⟨i0,z,hi,hz0,hz1,hz2,hz⟩,hp,hl,h1⟩
section
variable {α:Type} {f:α->List Bt} {size:Nat} {e:BA} {base:Nat} {w w':BD} {v:Bt} {xs ys:List α}
theorem aC {α:Type} (f:α->List Bt) (size:Nat) (hsz:∀ x,(f x).length=size) (xs:List α):(xs.flatMap f).length=xs.length * size:=by
 induction xs with
 | nil=>simp
 | cons x xs ih=>rw [List.flatMap_cons,BB,ih,hsz,List.length_cons,Nat.succ_mul];omega
theorem Own.nil:Own f size e base w (.slice none 0 0) ([]:List α):=World.ownsRow_nil w base e size
theorem Own.sl (h:Own f size e base w v xs) (hsz:∀ x,(f x).length=size):Sl f size w v xs:=by
 rcases h.2 with ⟨hv,h0⟩ | ⟨g,cap,cur,hv,hb,hg,hn,hm,hc,ht⟩
 ·have:xs=[]:=Bw h0;subst this;exact hv ▸ Sl.nil
 ·refine ⟨_,_,hv,fun _=>⟨g,0,rfl,?_,fun i x hx j u hu=>?_⟩⟩
  ·rcases Nat.lt_or_ge g w.heap.size with hlt | hge
   ·exact hlt
   ·rw [Array.getElem?_eq_none hge] at hg;cases hg
  ·have h1:=mf f size hsz xs i x hx j u hu;rw [<- ht,List.getElem?_take] at h1
   split at h1
   ·simp only [World.cell?,hg,Nat.zero_add,Option.isSome_none,Bool.false_eq_true,if_false];simpa using h1
   ·cases h1
theorem Own.alloc (h:Own f size e base w v xs) (o:Obj):Own f size e base (w.alloc o) v xs:=World.ownsRow.alloc h o
theorem Own.lt (h:Own f size e base w v xs):∀ k,v.ownBlock=some k->base<=k/\k<w.heap.size:=World.ownsRow.lt h
theorem Own.below (h:Own f size e base w v xs) (hb:Below w.heap.size w w'):Own f size e base w' v xs:=
 World.ownsRow.kept (row:=none) h ⟨hb.os,hb.tape,hb.output,hb.size,fun k hk _=>hb.block k hk⟩ (by by_cases h0:v.ownBlock=none;exact .inl h0;exact .inr h0)
theorem Own.kept {v2:Bt} (h:Own f size e base w v xs) (hg:w.grownBy w' v2.ownBlock) (hne:v.ownBlock=none\/v.ownBlock≠v2.ownBlock):Own f size e base w' v xs:=World.ownsRow.kept h hg hne
theorem gM {P:Program} {t:BA} {Bz:Nat} (T:ElemT P t e f size Bz) (ty:BA) (hown:Own f size e base w v xs) {y:Bt} (hy:Sl f size w y ys)
  (h63:xs.length+ys.length<=maxLen) (hbytes:(xs.length+ys.length) * Bz<=140737488355328) (hbase:base<=w.heap.size):
  ∃ v' w',(Bx #[t,t] ty #[v,y]).run P w=.ok v' w'/\Own f size e base w' v' (xs ++ ys)/\w.grownBy w' v.ownBlock/\(v'.ownBlock=v.ownBlock\/v'.ownBlock=some w.heap.size):=by
 obtain ⟨ht,⟨i,z,hi,hz,hs,hb,hzs⟩,hp,hl,h1⟩:=T;have fin:∀ {v':Bt} {w':BD},w'.ownsRow base e size v' (xs.length+ys.length) (xs.flatMap f ++ ys.flatMap f)->Own f size e base w' v' (xs ++ ys):=by intro v' w' h;unfold Own;rw [BB,List.flatMap_append];exact h
 rcases hy.cases with ⟨A,c,rfl,rfl⟩ | ⟨b,off,c,rfl,hne,hlt,hy'⟩
 ·rcases A with _ | ad
  ·have hrun:(Bx #[t,t] ty #[v,.slice none 0 c]).run P w=.ok v w:=by
    rcases hown.2 with ⟨hv,h0⟩ | ⟨g,cap,cur,hv,_,_,hnc,_⟩
    ·have e0:xs=[]:=Bw h0;rw [hv];simp [Bx,run_underlying ht,sizeOf,typeInfo,hi,BE,BC]
    ·rw [hv];simp [Bx,run_underlying ht,sizeOf,typeInfo,hi,BE,BC,hnc,storeCells]
   exact ⟨v,w,hrun,by simpa using hown,⟨rfl,rfl,rfl,Nat.le_refl _,fun _ _ _=>rfl⟩,.inl rfl⟩
  ·obtain ⟨v',w',hr,h2,h3,_,h5⟩:=run_append_own_at (P:=P) w base t ty e i z size Bz ht hi hz hs hb hzs hp v xs.length (xs.flatMap f) hown ad 0 c [] (by simp) (by simp) (by simp) h63 hbytes hbase;exact ⟨v',w',hr,fin (by simpa using h2),h3,h5⟩
 ·have hcells:∀ j u,(ys.flatMap f)[j]?=some u->w.cell? ((⟨b,off,none⟩:Addr).add j)=some u:=by
   intro j u hu;have hj:j<ys.length * size:=by
    rcases Nat.lt_or_ge j (ys.flatMap f).length with h | h
    ·rwa [aC f size hl] at h
    ·rw [List.getElem?_eq_none h] at hu;cases hu
   have hq:j / size<ys.length:=by rw [Nat.div_lt_iff_lt_mul hp];exact hj
   obtain ⟨_,hc⟩:=hy'.cells hq;have hm:=Nat.div_add_mod j size;have hr:=Nat.mod_lt j hp;have hx:=mf f size hl ys (j / size) ys[j / size] (Bv hq) (j % size) ((f ys[j / size])[j % size]'(by rw [hl];exact hr)) (Bv _);rw [show j / size * size+j % size=j from by rw [Nat.mul_comm];exact hm] at hx;have hu':=hx.symm.trans hu;injection hu' with hu'
   have:=hc (j % size) _ (Bv (by rw [hl];exact hr));rw [hu',show off+j / size * size+j % size=off+j from by rw [Nat.add_assoc,Nat.mul_comm (j / size),hm]] at this;unfold Addr.add
   split
   ·rename_i h0;subst h0;exact this
   ·exact this
  obtain ⟨v',w',hr,h2,h3,_,h5⟩:=run_append_own_at (P:=P) w base t ty e i z size Bz ht hi hz hs hb hzs hp v xs.length (xs.flatMap f) hown ⟨b,off,none⟩ ys.length c (ys.flatMap f) (aC f size hl ys) hcells
   (fun u hu=>by obtain ⟨x,_,hx⟩:=List.mem_flatMap.1 hu;exact h1 x u hx) h63 hbytes hbase
  exact ⟨v',w',hr,fin h2,h3,h5⟩
theorem al {P:Program} {ops:Array Oper} {rest:List Oper} {o:Oper} {a:Act} {Q:Exit->Act->BD->Prop} (hgd:o.guard=none) {s x:Operand} {t:BA}
  (ho:o.op=.call { callee:=.builtin .append,args:=#[s,x],argTypes:=#[t,t] }) {Bz:Nat} (T:ElemT P t e f size Bz) {y:Bt} (hs:a.eval s=v) (hx:a.eval x=y)
  (hown:Own f size e base w v xs) (hy:Sl f size w y ys)
  (h63:xs.length+ys.length<=maxLen) (hbytes:(xs.length+ys.length) * Bz<=140737488355328) (hbase:base<=w.heap.size)
  (h:∀ v' w',Own f size e base w' v' (xs ++ ys)->w.grownBy w' v.ownBlock->(v'.ownBlock=v.ownBlock\/v'.ownBlock=some w.heap.size)->wpList P ops Q rest (a.put o.dst v') w'):wpList P ops Q (o :: rest) a w:=by
 refine wpList_plain hgd fun K hK=>?_
 obtain ⟨v',w',hr,h2,h3,h5⟩:=gM (P:=P) T o.type hown hy h63 hbytes hbase;unfold Oper.wp execOp;simp only [ho,resolve,invoke,builtin,Sem.run_bind,Sem.run_pure,Result.andThen_ok,List.map_toArray,List.map_cons,List.map_nil,hs,hx,hr];exact hK _ _ (h v' w' h2 h3 h5)
end
theorem Sl.one {α:Type} {f:α->List Bt} {size:Nat} {w0:BD} {g c:Nat} {cs:Array Bt} {e:BA} (x:α) (hg:g=w0.heap.size) (hsz:∀ x,(f x).length=size) (hcs:cs.toList=f x):
  Sl f size (w0.alloc (.cells cs e)) (.slice (some ⟨g,0,none⟩) 1 c) [x]:=Sl.new hg hsz (by simpa using hcs) rfl
theorem ca {base:Nat} {w0 w w':BD} {v:Bt} (h:Below base w0 w) (hg:w.grownBy w' v.ownBlock) (hbase:base<=w.heap.size) (hv:∀ k,v.ownBlock=some k->base<=k):Below base w0 w':=h.grown hg hbase hv
def Dis (v1 v2:Bt):Prop:=∀ k,v1.ownBlock=some k->v2.ownBlock≠some k
theorem Dis.symm {v1 v2:Bt} (h:Dis v1 v2):Dis v2 v1:=fun k h2 h1=>h k h1 h2
theorem Dis.nil {v:Bt}:Dis (.slice none 0 0) v:=fun k h=>by cases h
section
variable {α β:Type} {f:α->List Bt} {g:β->List Bt} {size size2:Nat} {e e2:BA} {base base2:Nat} {w w':BD} {v v2 v':Bt} {xs:List α} {ys:List β}
theorem Own.dis (h:Own f size e base w v xs) (hg:w.grownBy w' v2.ownBlock) (hd:Dis v v2):Own f size e base w' v xs:=
 h.kept hg (by
  by_cases h0:v.ownBlock=none
  ·exact .inl h0
  ·obtain ⟨k,hk⟩:=Option.ne_none_iff_exists'.1 h0;refine .inr fun e=>hd k hk ?_
   rw [<- e,hk])
theorem Dis.app (h:Dis v v2) (hat:v'.ownBlock=v.ownBlock\/v'.ownBlock=some w.heap.size) (h2:Own g size2 e2 base2 w v2 ys):Dis v' v2:=by
 intro k hk hk2;rcases hat with hat | hat
 ·exact h k (hat ▸ hk) hk2
 ·rw [hat] at hk;injection hk with hk
  have:=(h2.lt k hk2).2;omega
end
theorem Sl.alloc {α:Type} {f:α->List Bt} {size:Nat} {w:BD} {v:Bt} {xs:List α} (h:Sl f size w v xs) (o:Obj):Sl f size (w.alloc o) v xs:=h.keep ((Below.refl _ _).alloc (Nat.le_refl _) o)
end Go.Proofs.YtknioodagnjchaaGreatDoor
namespace Go.Proofs.YtknioodagnjchaaGreatDoor
open Go renaming World->Bt,Value->Bv
open Go.RowKit
theorem ag {w0:Bt} {o:Obj} {g:Nat} (h:g=w0.heap.size):(w0.alloc o).heap[g]?=some o:=by subst h;exact heap_alloc_new _ _
theorem af {w w':Bt} {g:Nat} {o:Obj} (h:w.heap[g]?=some o) (hb:Below w.heap.size w w'):w'.heap[g]?=some o:=by
 rw [hb.block g ?_]
 ·exact h
 ·rcases Nat.lt_or_ge g w.heap.size with hlt | hge
  ·exact hlt
  ·rw [Array.getElem?_eq_none hge] at h;cases h
theorem ai {w:Bt} {g:Nat} {cs:Array Bv} {e:TypeId} (h:w.heap[g]?=some (.cells cs e (0,0))) (i:Nat) (u:Bv):(w.setCell ⟨g,i,none⟩ u).heap[g]?=some (.cells (cs.setIfInBounds i u) e (0,0)):=by simp [World.setCell,Array.getElem?_modify,h]
theorem ae {w:Bt} {g:Nat} {cs:Array Bv} {e:TypeId} (h:w.heap[g]?=some (.cells cs e (0,0))) (i:Nat):w.cell? ⟨g,i,none⟩=cs[i]?:=by simp [World.cell?,h]
theorem ab {w:Bt} {g:Nat} {cs:Array Bv} {e:TypeId} (h:w.heap[g]?=some (.cells cs e (0,0))) (i:Nat):w.frozen? ⟨g,i,none⟩=false:=by simp [World.frozen?,h]
theorem aj {w:Bt} {g:Nat} {o:Obj} (h:w.heap[g]?=some o):g<w.heap.size:=by
 rcases Nat.lt_or_ge g w.heap.size with hlt | hge
 ·exact hlt
 ·rw [Array.getElem?_eq_none hge] at h;cases h
theorem am {w:Bt} {g:Nat} {o:Obj} (h:w.heap[g]?=some o) (o':Obj):(w.alloc o').heap[g]?=some o:=(Below.heap_alloc w o' g (aj h)).trans h
structure Up (w0:Bt) where
 w:Bt
 h:Below w0.heap.size w0 w
instance (w0:Bt):Nonempty (Up w0):=⟨⟨w0,Below.refl _ _⟩⟩
theorem Up.cell {w0:Bt} (y:Up w0) (b o:Nat) (h:b<w0.heap.size):y.w.cell? ⟨b,o,none⟩=w0.cell? ⟨b,o,none⟩:=y.h.cell (p:=⟨b,o,none⟩) h
theorem bj {w0:Bt} {b o:Nat} {v:Bv} (h:w0.cell? ⟨b,o,none⟩=some v) (hb:b<w0.heap.size):∀ y:Up w0,y.w.cell? ⟨b,o,none⟩=some v:=fun y=>(y.cell b o hb).trans h
theorem aM {P:Program} {id:Nat} {Q:Exit->Act->Bt->Prop} {a:Act} {w:Bt} {l:List Oper} (hm:P.follows .mixedOrders=true) (hB:Region.lexB .any l.toArray=true)
  (h:wpQuiet P l.toArray (fun w'=>∃ y:Up w,w'=y.w) (fun a'=>∀ w',(∃ y:Up w,w'=y.w)->Q .normal a' w') l a):(Code.region id l.toArray true).wp P Q a w:=
 wp_region_quiet (C:=fun w'=>∃ y:Up w,w'=y.w) hm hB ⟨⟨w.drew,(Below.refl _ _).drew⟩,rfl⟩ (by simpa using h)
theorem eF {P:Program} {f:FuncId} {args:Array Bv} {w0:Bt} {y:Up w0} {v:Bv} (h:Calls P f args y.w fun e w'=>e=.returned v/\Below y.w.heap.size y.w w'):
  Calls P f args y.w fun e w''=>e=.returned v/\∃ z:Up w0,w''=z.w:=
 h.mono fun _ w' ⟨he,hb⟩=>⟨he,⟨w',y.h.trans (hb.mono y.h.size)⟩,rfl⟩
end Go.Proofs.YtknioodagnjchaaGreatDoor
namespace Go.Proofs.YtknioodagnjchaaGreatDoor
open Go renaming World->Bt,Value->Bw
open Nat renaming lt_of_lt_of_le->Bv
open Go.RowKit
structure Ch (S:Nat->Prop) (w w':Bt):Prop where
 os:w'.os=w.os
 tape:w'.tape=w.tape
 output:w'.output=w.output
 size:w.heap.size<=w'.heap.size
 block:∀ k,k<w.heap.size->¬ S k->w'.heap[k]?=w.heap[k]?
theorem Ch.refl (S:Nat->Prop) (w:Bt):Ch S w w:=⟨rfl,rfl,rfl,Nat.le_refl _,fun _ _ _=>rfl⟩
theorem Ch.mono {S S':Nat->Prop} {w w':Bt} (h:Ch S w w') (hs:∀ k,k<w.heap.size->S k->S' k):Ch S' w w':=⟨h.os,h.tape,h.output,h.size,fun k hk hn=>h.block k hk fun hh=>hn (hs k hk hh)⟩
theorem Ch.trans {S:Nat->Prop} {a b c:Bt} (h:Ch S a b) (k:Ch S b c):Ch S a c:=
 ⟨k.os.trans h.os,k.tape.trans h.tape,k.output.trans h.output,Nat.le_trans h.size k.size,fun i hi hn=>(k.block i (Bv hi h.size) hn).trans (h.block i hi hn)⟩
theorem Ch.then {S S':Nat->Prop} {a b c:Bt} (h:Ch S a b) (k:Ch S' b c) (hs:∀ i,S' i->S i\/a.heap.size<=i):Ch S a c:=
 ⟨k.os.trans h.os,k.tape.trans h.tape,k.output.trans h.output,Nat.le_trans h.size k.size,fun i hi hn=>(k.block i (Bv hi h.size) fun hh=>(hs i hh).elim hn (by omega)).trans (h.block i hi hn)⟩
theorem Ch.zK {S:Nat->Prop} {w w':Bt} (h:Below w.heap.size w w'):Ch S w w':=⟨h.os,h.tape,h.output,h.size,fun k hk _=>h.block k hk⟩
theorem Ch.zL {S:Nat->Prop} {w w':Bt} {row:Option Nat} (h:w.grownBy w' row) (hr:∀ k,row=some k->S k):Ch S w w':=⟨h.os,h.tape,h.output,h.size,fun k hk hn=>h.block k hk fun e=>hn (hr k e.symm)⟩
theorem Ch.below {S:Nat->Prop} {w w':Bt} {B:Nat} (h:Ch S w w') (hB:B<=w.heap.size) (hs:∀ k,S k->B<=k):Below B w w':=⟨h.os,h.tape,h.output,h.size,fun k hk=>h.block k (by omega) fun hh=>by have:=hs k hh;omega⟩
theorem Ch.alloc {S:Nat->Prop} {a w:Bt} (h:Ch S a w) (o:Obj):Ch S a (w.alloc o):=h.then (S':=fun _=>False) (Ch.zK ((Below.refl _ w).alloc (Nat.le_refl _) o)) (fun _ h=>h.elim)
theorem Ch.drew {S:Nat->Prop} {a w:Bt} (h:Ch S a w):Ch S a w.drew:=⟨h.os,h.tape,h.output,h.size,h.block⟩
theorem Ch.drewN {S:Nat->Prop} {a w:Bt} (h:Ch S a w) (n:Nat):Ch S a (w.drewN n):=⟨h.os,h.tape,h.output,h.size,h.block⟩
theorem Ch.setCell {S:Nat->Prop} {a w:Bt} (h:Ch S a w) {p:Addr} (hp:S p.block) (u:Bw):Ch S a (w.setCell p u):=
 h.trans ⟨rfl,rfl,rfl,by simp [World.setCell],fun k _ hn=>Below.heap_setCell _ _ _ _ (fun e=>hn (e ▸ hp))⟩
theorem Ch.keep {S:Nat->Prop} {w w':Bt} {g:Nat} {o:Obj} (h:Ch S w w') (hg:w.heap[g]?=some o) (hn:¬ S g):w'.heap[g]?=some o:=
 (h.block g (aj hg) hn).trans hg
theorem Ch.cell {S:Nat->Prop} {w w':Bt} {a:Addr} {v:Bw} (h:Ch S w w') (hg:w.cell? a=some v) (hn:¬ S a.block):w'.cell? a=some v:=
 (World.cell?_of_block (h.block a.block (World.block_lt_of_cell? w a hg) hn)).trans hg
theorem Own.ch {α:Type} {f:α->List Bw} {size:Nat} {e:TypeId} {base:Nat} {w w':Bt} {v:Bw} {xs:List α} {S:Nat->Prop} (h:Own f size e base w v xs) (hc:Ch S w w') (hn:∀ k,v.ownBlock=some k->¬ S k):Own f size e base w' v xs:=by
 refine ⟨h.1,?_⟩;rcases h.2 with h2 | ⟨g,cap,cur,hv,hb,hg,rest⟩
 ·exact .inl h2
 ·refine .inr ⟨g,cap,cur,hv,hb,hc.keep hg (hn g (by rw [hv];rfl)),rest⟩
theorem de {α:Type} {f:α->List Bw} {size:Nat} {w w':Bt} {v:Bw} {xs:List α} {S:Nat->Prop} (h:Sl f size w v xs) (hc:Ch S w w') (hn:∀ k,v.ownBlock=some k->¬ S k):Sl f size w' v xs:=by obtain ⟨A,c,rfl,h⟩:=h;refine ⟨A,c,rfl,fun hne=>?_⟩;obtain ⟨b,off,rfl,hlt,hx⟩:=h hne;have hb:w'.heap[b]?=w.heap[b]?:=hc.block b hlt (hn b rfl);refine ⟨b,off,rfl,Bv hlt hc.size,fun i x hx' j u hu=>?_⟩;rw [World.cell?_of_block (a:=⟨b,off+i * size+j,none⟩) hb];exact hx i x hx' j u hu
section
variable {α:Type} {f:α->List Bw} {size:Nat} {e:TypeId} {base:Nat} {w:Bt} {v:Bw} {xs ys:List α}
theorem ct {P:Program} {ops:Array Oper} {o:Oper} {a:Act} {K:Act->Bt->Prop} {Q:Exit->Act->Bt->Prop} {E:Prop} (hgd:o.guard=none) {s x:Operand} {t:TypeId}
  (ho:o.op=.call { callee:=.builtin .append,args:=#[s,x],argTypes:=#[t,t] }) {bytes:Nat} (T:ElemT P t e f size bytes) {y:Bw} (hs:a.eval s=v) (hx:a.eval x=y)
  (hown:Own f size e base w v xs) (hy:Sl f size w y ys)
  (h63:xs.length+ys.length<=maxLen) (hbytes:(xs.length+ys.length) * bytes<=140737488355328) (hbase:base<=w.heap.size)
  (h:∀ v' w',Own f size e base w' v' (xs ++ ys)->w.grownBy w' v.ownBlock->(v'.ownBlock=v.ownBlock\/v'.ownBlock=some w.heap.size)->K (a.put o.dst v') w'):
  if Region.wanted o (yielded ops a.tmps)=true then Oper.wp P o a w K Q else E:=by
 have hw:Region.wanted o (yielded ops a.tmps)=true:=by simp [Region.wanted,hgd]
 rw [if_pos hw];obtain ⟨v',w',hr,h2,h3,h5⟩:=gM (P:=P) T o.type hown hy h63 hbytes hbase;unfold Oper.wp execOp;simp only [ho,resolve,invoke,builtin,Sem.run_bind,Sem.run_pure,Result.andThen_ok,List.map_toArray,List.map_cons,List.map_nil,hs,hx,hr];exact h v' w' h2 h3 h5
end
end Go.Proofs.YtknioodagnjchaaGreatDoor
namespace Go.Proofs.YtknioodagnjchaaGreatDoor
open List renaming replicate->Bt,take_of_length_le->Bv,take_succ_eq_append_getElem->Bw,length_take->BD,replicate_succ->BG,append_nil->BM
open Go.Proofs.Tryz renaming prog->Bx,underlying46->BA,underlying9->BK,underlying5->BL,ntmps150->BN
open UInt8 renaming ofNat->Bz,toNat_ofNat'->BI
open Go.IntWalk renaming u64_in->BB
open Nat renaming le_refl->BC,div_div_eq_div_mul->BE,lt_of_lt_of_le->BH,pow_succ->BJ
open Go renaming World->BF
open Go.Lib renaming hid->Z
open Go.RowKit
def uC (b:UInt8):List Value:=[.int .u8 b.toNat]
theorem fd (b:UInt8):(uC b).length=1:=rfl
def bs (s:ByteArray):List UInt8:=s.data.toList
theorem gS (s:ByteArray):(bs s).length=s.size:=rfl
theorem rB (w:BF) (e:TypeId) (s:ByteArray):Below w.heap.size w (Lib.bytesWorld w e s):=
 ⟨rfl,rfl,rfl,by rw [Lib.bytesWorld_size];omega,fun k hk=>Lib.bytesWorld_at_old w e s k hk⟩
theorem nr (w:BF) (s:ByteArray):∃ c w1,(convert 9 46 (.string s)).run Bx w=.ok (.slice (some ⟨w.heap.size,0,none⟩) s.size c) w1/\Below w.heap.size w w1/\w.heap.size<w1.heap.size/\
  ∀ j (hj:j<(bs s).length),w1.cell? ⟨w.heap.size,j,none⟩=some (.int .u8 (bs s)[j].toNat):=
 ⟨_,_,Lib.run_convert_string_bytes w 9 46 5 s BK BA BL,rB w _ s,by rw [Lib.bytesWorld_size];omega,fun j hj=>by
   rw [Lib.bytesWorld_cell w _ s j (by rw [<- gS];exact hj)];unfold bs at hj ⊢;simp only [List.getD,List.getElem?_eq_getElem hj,Option.getD_some]⟩
def cw (l:List UInt8):Nat:=l.foldl (fun n b=>n * 256+b.toNat) 0
theorem jp (l:List UInt8) (b:UInt8):cw (l ++ [b])=cw l * 256+b.toNat:=by simp [cw]
theorem il (l:List UInt8):cw l<256 ^ l.length:=by
 obtain ⟨m,rfl⟩:∃ m,l=m.reverse:=⟨l.reverse,by simp⟩
 induction m with
 | nil=>decide
 | cons b m ih=> rw [List.reverse_cons,jp,List.length_append,List.length_singleton,BJ];have:=b.toNat_lt;omega
theorem vA (l:List UInt8) (h:l.length<=8):cw l<18446744073709551616:=
 BH (il l) (Nat.le_trans (Nat.pow_le_pow_right (by omega) h) (by decide))
theorem vz {l:List UInt8} {b:UInt8} {n:Nat} (h:n=cw (l ++ [b])) (hl:l.length<=7):
  IntKind.u64.wrap (IntKind.u64.wrap ((cw l:Int) * 256)+IntKind.u64.wrap (b.toNat:Int))=(n:Int):=by
 have h1:cw (l ++ [b])<18446744073709551616:=vA _ (by simp;omega);rw [jp] at h1 h;have hb:=b.toNat_lt;rw [BB ((cw l:Int) * 256) (by omega),BB (b.toNat:Int) (by omega),BB _ (by omega),h];omega
theorem yv {l:List UInt8} {b:UInt8} {n:Nat} (h:n=cw (l ++ [b])) (hl:l.length<=7):
  bits .or .u64 (IntKind.u64.wrap ((cw l:Int) * 256)) (IntKind.u64.wrap (b.toNat:Int))=(n:Int):=by
 have h1:cw (l ++ [b])<18446744073709551616:=vA _ (by simp;omega);rw [jp] at h1 h;have hb:=b.toNat_lt;have h2:cw l * 256<18446744073709551616:=Nat.lt_of_le_of_lt (Nat.le_add_right _ _) h1;have h3:b.toNat<18446744073709551616:=BH hb (by decide);have h4:cw l * 256 % 2 ^ 8=0:=Nat.mul_mod_left _ _;rw [BB ((cw l:Int) * 256) (by omega),BB (b.toNat:Int) (by omega),show (cw l:Int) * 256=((cw l * 256:Nat):Int) by omega,u64_or_nat _ _ h2 h3,nat_join 8 _ _ h4 hb,h]
theorem gG (s:ByteArray) (w:BF) (h0:1<=s.size) (h8:s.size<=8):
  Calls Bx 150 #[.string s] w fun e w'=>e=.returned (.tuple #[.int .u64 (cw (bs s)),.int .i64 0])/\Below w.heap.size w w':=by
 obtain ⟨c,w1,hcv,hb,hlt,hcs⟩:=nr w s;have HB:=Z hb;have HCS:=Z hcs;have hbs:=gS s;clear hb hcs;go_enter Tryz.func150,BN;have h1:(1:Int)<=(s.size:Int):=by omega
 have h2:(s.size:Int)<=8:=by omega
 go_wp2_with fail;go_loop [4,18] (fun nv iv=>∃ k:Nat,k<=s.size/\iv=.int .i64 k/\nv=.int .u64 (cw ((bs s).take k))) (fun _ iv=>s.size - (intOf iv).toNat)
 case atStart=>exact ⟨0,Nat.zero_le _,rfl,rfl⟩
 case round=>
  obtain ⟨k,hk,rfl,rfl⟩:=hrel;by_cases hk2:k<s.size
  ·have e0:=HCS.out k (by omega);have HT:=Z (Bw (show k<(bs s).length by omega));have hk0:(0:Int)<=(k:Int):=by omega
   have hk1:(k:Int)<(s.size:Int):=by omega
   generalize (bs s)[k]=b at *;go_wp2_with fail;refine ⟨⟨k+1,by omega,rfl,by rw [vz (n:=cw ((bs s).take (k+1))) (by rw [HT.out]) (by rw [BD];omega)]⟩,?_⟩;simp [intOf];omega
  ·have HT:=Z (show (bs s).take k=bs s from Bv (by omega));go_wp2_with fail;go_ret2;rw [HT.out];exact ⟨rfl,HB.out⟩
theorem pm (s:ByteArray) (w:BF) (h0:s.size<1\/8<s.size):
  Calls Bx 150 #[.string s] w fun e w'=>e=.returned (.tuple #[.int .u64 0,.int .i64 1])/\w=w':=by
 go_enter Tryz.func150,BN;by_cases h1:s.size<1
 ·have h2:(s.size:Int)<1:=by omega
  clear h0;go_wp2_with fail;go_ret2;exact ⟨rfl,rfl⟩
 ·have h2:(1:Int)<=(s.size:Int):=by omega
  have h3:(8:Int)<(s.size:Int):=by omega
  clear h0;go_wp2_with fail;go_ret2;exact ⟨rfl,rfl⟩
theorem jZ (s:ByteArray) (w:BF) (h0:1<=s.size) (h8:s.size<=8):
  Calls Bx 119 #[.string s] w fun e w'=>e=.returned (.tuple #[.int .u64 (cw (bs s)),.int .i64 0])/\w=w':=by
 have hbs:=gS s;go_enter Tryz.func119,Tryz.ntmps119;have h1:(1:Int)<=(s.size:Int):=by omega
 have h2:(s.size:Int)<=8:=by omega
 go_wp2_with fail;go_loop [4,5] (fun nv iv=>∃ k:Nat,k<=s.size/\iv=.int .i64 k/\nv=.int .u64 (cw ((bs s).take k))) (fun _ iv=>s.size - (intOf iv).toNat)
 case atStart=>exact ⟨0,Nat.zero_le _,rfl,rfl⟩
 case round=>
  obtain ⟨k,hk,rfl,rfl⟩:=hrel;by_cases hk2:k<s.size
  ·have HT:=Z (Bw (show k<(bs s).length by omega));have hk0:(0:Int)<=(k:Int):=by omega
   have hk1:(k:Int)<(s.size:Int):=by omega
   have HG:=Z (show s[k]=(bs s)[k] from rfl);go_wp2_with fail;refine ⟨⟨k+1,by omega,rfl,by rw [HG.out,yv (n:=cw ((bs s).take (k+1))) (by rw [HT.out];rfl) (by rw [BD];omega)]⟩,?_⟩;simp [intOf];omega
  ·have HT:=Z (show (bs s).take k=bs s from Bv (by omega));go_wp2_with fail;go_ret2;rw [HT.out];exact ⟨rfl,rfl⟩
def aR:Nat->Nat->List UInt8
 | 0,_=>[]
 | k+1,n=>aR k (n / 256) ++ [Bz (n % 256)]
theorem aF:∀ k n,(aR k n).length=k
 | 0,_=>rfl
 | k+1,n=>by simp [aR,aF k]
theorem ng:∀ (k n i:Nat) (h:i<(aR k n).length),(aR k n)[i]=Bz (n / 256 ^ (k - 1 - i) % 256)
 | 0,_,_,h=>by simp [aR] at h
 | k+1,n,i,h=>by
   have hl:=aF (k+1) n;have hk:=aF k (n / 256);simp only [aR];rcases Nat.lt_or_ge i k with hi | hi
   ·rw [List.getElem_append_left (by omega),ng k (n / 256) i (by omega),BE,show k+1 - 1 - i=(k - 1 - i)+1 by omega,BJ,Nat.mul_comm 256]
   ·rw [List.getElem_append_right (by omega)];have:i=k:=by omega
    subst this;simp
theorem ko (w:BF) (n:Nat) (h:n<=1000000):(Instr.makeSlice 46 (.int .i64 n) (.int .i64 n)).run Bx w=.ok (.slice (some ⟨w.heap.size,0,none⟩) n n) (w.alloc (.cells ((Bt n (0:UInt8)).flatMap uC).toArray 5)):=by
 obtain ⟨i,hi,hz,hsz,hby⟩:∃ i,Tryz.prog.info? 5=some i/\i.zero=some (.int .u8 0)/\i.size=1/\i.bytes=1:=by
  have h:=(show (Tryz.prog.info? 5).map (fun i=>(i.zero,i.size,i.bytes))=some (some (.int .u8 0),1,1) by kernel_rfl);cases hi:Tryz.prog.info? 5 with
  | none=>rw [hi] at h;cases h
  | some i=> rw [hi] at h;simp only [Option.map_some,Option.some.injEq,Prod.mk.injEq] at h;exact ⟨i,rfl,h.1,h.2.1,h.2.2⟩
 have e:madeCells (Value.cells (.int .u8 0)) n=((Bt n (0:UInt8)).flatMap uC).toArray:=by
  rw [<- Array.toList_inj,show Value.cells (.int .u8 0)=#[.int .u8 0] from rfl,toList_madeCells_one];clear h
  induction n with
  | zero=>rfl
  | succ n ih=> rw [BG,BG,List.flatMap_cons,ih];rfl
 rw [run_make w 46 5 i _ BA hi hz .i64 .i64 n n (by omega) (Int.le_refl _) (by rw [hby];omega) (by omega),hsz,Nat.mul_one,Int.toNat_natCast,e]
theorem pQ (l:List UInt8):l.flatMap uC=l.map fun b=>Value.int .u8 b.toNat:=by
 induction l with
 | nil=>rfl
 | cons b l ih=>simp [uC,ih]
theorem ia (w:BF) (g n c:Nat) (l:List UInt8) (hn:l.length=n) (hc:∀ j (hj:j<l.length),w.cell? ⟨g,j,none⟩=some (.int .u8 l[j].toNat)):
  (convert 46 9 (.slice (some ⟨g,0,none⟩) n c)).run Bx w=.ok (.string ⟨l.toArray⟩) w:=by
 subst hn;refine run_convert_bytes_back w 46 9 5 ⟨g,0,none⟩ c l BA BL BK (fun j hj=>?_);have:=hc j hj;rw [show (⟨g,0,none⟩:Addr).add j=⟨g,0+j,none⟩ from by unfold Addr.add;split <;> simp_all,Nat.zero_add];exact this
theorem ic {w:BF} {g:Nat} {l:List UInt8} {fz:Nat × Nat} (h:w.heap[g]?=some (.cells (l.flatMap uC).toArray 5 fz)) (j:Nat) (hj:j<l.length):w.cell? ⟨g,j,none⟩=some (.int .u8 l[j].toNat):=by rw [pQ] at h;simp [World.cell?,h,hj]
theorem xg {w:BF} {g:Nat} {l:List UInt8} (h:w.heap[g]?=some (.cells (l.flatMap uC).toArray 5 (0,0))) (j:Nat) (b:UInt8):(w.setCell ⟨g,j,none⟩ (.int .u8 b.toNat)).heap[g]?=some (.cells ((l.set j b).flatMap uC).toArray 5 (0,0)):=by rw [pQ] at h;simp only [World.setCell,Array.getElem?_modify,h,if_true,Option.map_some,pQ];simp [List.map_set]
theorem jx (n:Nat) (k:Nat) (w:BF) (_hn:n<18446744073709551616) (h1:1<=k) (h8:k<=8):
  Calls Bx 170 #[.int .u64 n,.int .i64 k] w fun e w'=>e=.returned (.string ⟨(aR k n).toArray⟩)/\Below w.heap.size w w':=by
 have hmk:=ko w k (by omega);have HB0:=Z (ag (w0:=w) (g:=w.heap.size) (o:=.cells ((Bt k (0:UInt8)).flatMap uC).toArray 5) rfl);have HL:=Z (aF k n);have HW0:=Z (Below.alloc (Below.refl _ w) (BC _) (.cells ((Bt k (0:UInt8)).flatMap uC).toArray 5));generalize w.alloc (.cells ((Bt k (0:UInt8)).flatMap uC).toArray 5)=w1 at *;go_enter Tryz.func170,Tryz.ntmps170;have h1:(1:Int)<=(k:Int):=by omega
 have h2:(k:Int)<=8:=by omega
 go_wp2_with fail;go_loopw [0,6] (fun nv iv wr=>∃ j:Nat,j<=k/\nv=.int .u64 ((n / 256 ^ (k - j):Nat):Int)/\iv=.int .i64 ((j:Int) - 1)/\wr.heap[w.heap.size]?=some (.cells ((Bt j 0 ++ (aR k n).drop j).flatMap uC).toArray 5 (0,0))/\Below w.heap.size w wr) (fun _ iv _=>(intOf iv+1).toNat)
 case atStart=>exact ⟨k,BC _,by simp,rfl,by rw [List.drop_of_length_le (by rw [HL.out];omega),BM];exact HB0.out,HW0.out⟩
 case round=>
  obtain ⟨j,hj,rfl,rfl,hb,hw⟩:=hrel;have HB:=Z hb;have HW:=Z hw;have hl:=aj hb;have hfz:=ab hb;clear hb hw;by_cases hj0:j=0
  ·subst hj0;have hcv:=ia wr w.heap.size k k (aR k n) HL.out (ic (by simpa using HB.out));clear hfz;go_wp2_with fail;go_ret;exact ⟨rfl,HW.out⟩
  ·obtain ⟨i,rfl⟩:∃ i,j=i+1:=⟨j - 1,by omega⟩;have c0:=ic HB.out i (by simp;omega);have f0:=hfz i;clear hfz;obtain ⟨m,hm⟩:∃ m,m=n / 256 ^ (k - (i+1)):=⟨_,rfl⟩;have HM:=Z hm;rw [<- hm];clear hm;have HS:=Z (show (Bt (i+1) 0 ++ (aR k n).drop (i+1)).set i (Bz (m % 256))=Bt i 0 ++ (aR k n).drop i by
    have hl:=HL.out;rw [List.set_append_left _ _ (by simp),List.replicate_succ',List.set_append_right _ _ (by simp),List.length_replicate,Nat.sub_self,List.set_cons_zero,List.append_assoc,List.drop_eq_getElem_cons (i:=i) (by omega),ng k n i (by omega),HM.out,show k - (i+1)=k - 1 - i by omega];rfl)
   have HV:=Z (show ((m:Int) % 256)=((Bz (m % 256)).toNat:Int) by rw [BI];omega);have HD:=Z (show (m:Int) / 256=((n / 256 ^ (k - i):Nat):Int) by rw [HM.out,show k - i=(k - (i+1))+1 by omega,BJ,<- BE];rfl);go_wp2_with fail;refine ⟨⟨i,by omega,by rw [HD.out],rfl,?_,HW.out.setCell (by simp) _⟩,?_⟩
   ·have:=xg HB.out i (Bz (m % 256));rw [HS.out,<- HV.out] at this;exact this
   ·simp [intOf]
def ap (l:List UInt8):ByteArray:=⟨l.toArray⟩
theorem bA (l:List UInt8):bs (ap l)=l:=rfl
theorem pK (s:ByteArray):ap (bs s)=s:=rfl
theorem au (l:List UInt8):(ap l).size=l.length:=rfl
theorem pU {a b:ByteArray} (h:bs a=bs b):a=b:=by rw [<- pK a,<- pK b,h]
theorem jR (s:ByteArray) (a b:Nat):bs (s.extract a b)=((bs s).drop a).take (b - a):=by unfold bs;rw [ByteArray.data_extract,Array.toList_extract,List.extract_eq_take_drop]
theorem vf (a b:ByteArray):bs (a ++ b)=bs a ++ bs b:=by unfold bs;rw [ByteArray.data_append,Array.toList_append]
theorem dM (s:ByteArray) (a b:Nat):s.extract a b=ap (((bs s).drop a).take (b - a)):=pU (by rw [jR,bA])
theorem cE (a b:ByteArray):a ++ b=ap (bs a ++ bs b):=pU (by rw [vf,bA])
theorem yh (n i:Nat):(n:Int) / 2 ^ (8 * i) % 256=((Bz (n / 256 ^ i % 256)).toNat:Int):=by rw [BI,Nat.mod_mod,show (256:Nat) ^ i=2 ^ (8 * i) from by rw [Nat.pow_mul]];simp
theorem uP (k n j:Nat) (h:j<k):(aR k n).take (k - j)=(aR k n).take (k - (j+1)) ++ [Bz (n / 256 ^ j % 256)]:=by have hl:=aF k n;rw [show k - j=(k - (j+1))+1 by omega,Bw (by omega),ng];congr 6;omega
theorem tI:(Tryz.prog.info? 5).map (fun i=>(i.zero,i.size,i.bytes))=some (some (.int .u8 0),1,1):=by kernel_rfl
theorem zz (x:UInt8) (u:Value) (hu:u ∈ uC x):u.oneCell'=true:=by rw [uC,List.mem_singleton] at hu;rw [hu];rfl
theorem zj:ElemT Bx 46 5 uC 1 1:=ElemT.mk' (z:=.int .u8 0) BA tI rfl (by decide) fd zz
theorem nq {base:Nat} {w:BF} {g n c:Nat} {l:List UInt8} (h:Own uC 1 5 base w (.slice (some ⟨g,0,none⟩) n c) l):
  (convert 46 9 (.slice (some ⟨g,0,none⟩) n c)).run Bx w=.ok (.string (ap l)) w:=by
 have hn:l.length=n:=by
  obtain ⟨A,c',he⟩:=Sl.zM (h.sl fd);injection he with h1 h2 h3
  exact h2.symm
 have hc:∀ j (hj:j<l.length),w.cell? ⟨g,j,none⟩=some (.int .u8 l[j].toNat):=fun j hj=>by
  obtain ⟨b,off,c2,he,-,hbl,hs⟩:=((h.sl fd).cases).resolve_left (fun ⟨_,_,_,h⟩=>by rw [h] at hj;simp at hj);injection he with e1 e2 e3
  injection e1 with e1
  injection e1 with e4 e5 e6
  subst e4 e5;have:=(hs.cells (k:=j) hj).2 0 _ rfl;simpa using this
 have h3:=ia w g n c l hn hc;exact h3
theorem gB (n:Nat) (k:Nat) (w:BF) (_hn:n<18446744073709551616) (h1:1<=k) (h8:k<=8):
  Calls Bx 148 #[.int .u64 n,.int .i64 k] w fun e w'=>e=.returned (.string (ap (aR k n)))/\Below w.heap.size w w':=by
 have HL:=Z (aF k n);go_enter Tryz.func148,Tryz.ntmps148;have h1:(1:Int)<=(k:Int):=by omega
 have h2:(k:Int)<=8:=by omega
 go_wp2_with fail;go_loopw [5,6] (fun bv iv wr=>∃ j:Nat,j<=k/\iv=.int .i64 ((j:Int) - 1)/\Own uC 1 5 w.heap.size wr bv ((aR k n).take (k - j))/\Below w.heap.size w wr) (fun _ iv _=>(intOf iv+1).toNat)
 case atStart=>exact ⟨k,BC _,rfl,by rw [Nat.sub_self];exact World.ownsRow_lit w #[] 0 (BC _) (by simp [maxLen]) (by simp),(Below.refl _ _).alloc (BC _) _⟩
 case round=>
  obtain ⟨j,hj,rfl,ho,hw⟩:=hrel;have HO:=Z ho;have HW:=Z hw;clear ho hw;obtain ⟨A,c,hv⟩:=Sl.zM (HO.out.sl fd);subst hv;by_cases hj0:j=0
  ·subst hj0;have hg:∃ g,A=some ⟨g,0,none⟩:=by
    rcases HO.out.2 with ⟨hv,h0⟩ | ⟨g,cap,cur,hv,_⟩
    ·have:=HL.out;rw [BD] at h0;omega
    ·injection hv with hv;exact ⟨g,hv⟩
   obtain ⟨g,rfl⟩:=hg;have hcv:=nq HO.out;rw [Nat.sub_zero,Bv (by rw [HL.out];omega)] at hcv;rw [Nat.sub_zero,Bv (by rw [HL.out];omega)];go_wp2_with fail;go_ret;exact ⟨rfl,HW.out⟩
  ·obtain ⟨i,rfl⟩:∃ i,j=i+1:=⟨j - 1,by omega⟩;have h3:(0:Int)<=8 * (i:Int):=by omega
   have h4:(i:Int)<8:=by omega
   go_wp2_with (at_builtin;refine Hid.out ?_);refine Z ?_;refine al rfl rfl zj rfl rfl (HO.out.alloc _) (Sl.one (Bz (n / 256 ^ i % 256)) (by simp) fd (by rw [yh];rfl)) (by have:=HL.out;simp [maxLen];omega) (by have:=HL.out;simp;omega) (by have:=HW.out.size;simp;omega) ?_;intro v' w6 ho hg hat;have HO6:=Z ho;have HB6:=Z (ca (HW.out.alloc HW.out.size _) hg (by have:=HW.out.size;simp;omega) (fun k hk=>(HO.out.lt k hk).1));clear ho hg hat;go_wp2_with fail;refine ⟨⟨i,by omega,by simp,by rw [uP k n i (by omega)];exact HO6.out,HB6.out⟩,?_⟩;simp [intOf]
def aK (l:List UInt8):List UInt8:=l.take 232 ++ Bt (232 - l.length) 0
theorem er (l:List UInt8):(aK l).length=232:=by simp [aK];omega
theorem rh (s:ByteArray) (w:BF):
  Calls Bx 20 #[.string s] w fun e w'=>e=.returned (.string (ap (aK (bs s))))/\Below w.heap.size w w':=by
 have hbs:=gS s;go_enter Tryz.func20,Tryz.ntmps20;by_cases h1:232<=s.size
 ·have h2:(232:Int)<=(s.size:Int):=by omega
  go_wp2_with fail;go_ret;refine ⟨?_,Below.refl _ _⟩;rw [dM,List.drop_zero,aK,show 232 - (bs s).length=0 by omega,List.replicate_zero,BM];rfl
 ·have h2:(s.size:Int)<232:=by omega
  obtain ⟨m,hm⟩:∃ m:Nat,m=232 - s.size:=⟨_,rfl⟩;have hmk:=ko w m (by omega);rw [show ((m:Nat):Int)=232 - (s.size:Int) by omega] at hmk;have HB0:=Z (ag (w0:=w) (g:=w.heap.size) (o:=.cells ((Bt m (0:UInt8)).flatMap uC).toArray 5) rfl);have HW0:=Z (Below.alloc (Below.refl _ w) (BC _) (.cells ((Bt m (0:UInt8)).flatMap uC).toArray 5));generalize w.alloc (.cells ((Bt m (0:UInt8)).flatMap uC).toArray 5)=w1 at *;have hcv:=ia w1 w.heap.size m m (Bt m 0) (by simp) (ic HB0.out);have HM:=Z hm
  have HL:=Z (show s ++ { data:=Array.replicate m 0 }=ap (aK (bs s)) by
   rw [cE,aK,Bv (by omega),hbs,<- hm];simp [bs])
  clear hm;have hlim:s.size+m=232:=by have:=HM.out;omega
  go_wp2_with fail;go_ret;rw [HL.out];exact ⟨rfl,HW0.out⟩
end Go.Proofs.YtknioodagnjchaaGreatDoor
