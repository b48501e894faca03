/- Plain notions on memory: a slice value that reads as a list of rows of cells; kept over new memory. -/
import Derived.Test.YtdmhbgpejppbkaaGreatRows
import Derived.WalkKit
import Derived.WalkSpells
import Derived.WalkLawsBesides
import Derived.Handy
import Derived.Lib.Hide
import Derived.BigQuiet
import Derived.Deep.QuietTactic
namespace Go.Proofs.YtdmhbgpejppbkaaGreat
open Go.RowKit
def Sl {α:Type} (f:α→List Value) (size:Nat) (w:World) (v:Value) (xs:List α):Prop:=
 ∃ A c,v=.slice A xs.length c∧(xs≠[]→∃ b off,A=some ⟨b,off,none⟩∧b<w.heap.size∧
   ∀ i x,xs[i]?=some x→∀ j u,(f x)[j]?=some u→w.cell? ⟨b,off+i * size+j,none⟩=some u)
section
variable {α:Type} {f:α→List Value} {size:Nat} {w w':World} {v:Value} {xs:List α}
theorem Sl.keep (h:Sl f size w v xs) (hb:Below w.heap.size w w'):Sl f size w' v xs:=by obtain ⟨A,c,rfl,h⟩:=h;refine ⟨A,c,rfl,fun hne=>?_⟩;obtain ⟨b,off,rfl,hlt,hc⟩:=h hne;refine ⟨b,off,rfl,Nat.lt_of_lt_of_le hlt hb.size,fun i x hx j u hu=>?_⟩;rw [hb.cell (p:=⟨b,off+i * size+j,none⟩) hlt];exact hc i x hx j u hu
theorem Sl.nil:Sl f size w (.slice none 0 0) ([]:List α):=⟨none,0,rfl,fun h=>absurd rfl h⟩
theorem Sl.cells {b off n c k:Nat} (h:Sl f size w (.slice (some ⟨b,off,none⟩) n c) xs) (hk:k<xs.length):
  b<w.heap.size∧∀ j u,(f xs[k])[j]?=some u→w.cell? ⟨b,off+k * size+j,none⟩=some u:=by
 obtain ⟨A,c',he,h⟩:=h;have hne:xs≠[]:=by intro e;subst e;simp at hk
 obtain ⟨b',off',rfl,hlt,hc⟩:=h hne;injection he with e1 e2 e3
 injection e1 with e1
 injection e1 with e4 e5 e6
 subst e4 e5;exact ⟨hlt,fun j u hu=>hc k xs[k] (List.getElem?_eq_getElem hk) j u hu⟩
theorem Sl.len' (h:Sl f size w v xs):∃ A c,v=.slice A xs.length c:=by obtain ⟨A,c,h,_⟩:=h;exact ⟨A,c,h⟩
theorem Sl.cases (h:Sl f size w v xs):(∃ A c,v=.slice A 0 c∧xs=[])∨∃ b off c,v=.slice (some ⟨b,off,none⟩) xs.length c∧xs≠[]∧b<w.heap.size∧Sl f size w (.slice (some ⟨b,off,none⟩) xs.length c) xs:=by
 have h0:=h;obtain ⟨A,c,rfl,h⟩:=h;by_cases hne:xs=[]
 ·subst hne;exact .inl ⟨A,c,rfl,rfl⟩
 ·obtain ⟨b,off,rfl,hlt,hc⟩:=h hne;exact .inr ⟨b,off,c,rfl,hne,hlt,h0⟩
theorem gU {α:Type} (f:α→List Value) (size:Nat) (hsz:∀ x,(f x).length=size):∀ (xs:List α) (i:Nat) (x:α),xs[i]?=some x→∀ j u,(f x)[j]?=some u→(xs.flatMap f)[i * size+j]?=some u:=by
 intro xs
 induction xs with
 | nil=>intro i x h;simp at h
 | cons y ys ih=>
   intro i x h j u hu;have hj:j<(f x).length:=by
    rcases Nat.lt_or_ge j (f x).length with h | h
    ·exact h
    ·rw [List.getElem?_eq_none h] at hu;cases hu
   cases i with
   | zero=> simp at h;subst h;rw [List.flatMap_cons,List.getElem?_append_left (by omega)];simpa using hu
   | succ i=> simp at h;have:=hsz y;rw [List.flatMap_cons,List.getElem?_append_right (by rw [this,Nat.succ_mul];omega)];rw [show (i+1) * size+j - (f y).length=i * size+j from by rw [this,Nat.succ_mul];omega];exact ih i x h j u hu
theorem Sl.of_row {g n c:Nat} {cs:Array Value} {e:TypeId} {fz:Nat × Nat} (hg:w.heap[g]?=some (.cells cs e fz)) (hsz:∀ x,(f x).length=size) (hcs:cs.toList=xs.flatMap f) (hn:n=xs.length):
  Sl f size w (.slice (some ⟨g,0,none⟩) n c) xs:=by
 subst hn;refine ⟨_,_,rfl,fun _=>⟨_,_,rfl,?_,fun i x hx j u hu=>?_⟩⟩
 ·rcases Nat.lt_or_ge g w.heap.size with hlt | hge
  ·exact hlt
  ·rw [Array.getElem?_eq_none hge] at hg;cases hg
 ·have h1:=gU f size hsz xs i x hx j u hu;rw [← hcs] at h1;simp only [World.cell?,hg,Nat.zero_add,Option.isSome_none,Bool.false_eq_true,if_false];simpa using h1
theorem Sl.new {w0:World} {g n c:Nat} {cs:Array Value} {e:TypeId} (hg:g=w0.heap.size) (hsz:∀ x,(f x).length=size) (hcs:cs.toList=xs.flatMap f) (hn:n=xs.length):
  Sl f size (w0.alloc (.cells cs e)) (.slice (some ⟨g,0,none⟩) n c) xs:=by
 subst hg;exact Sl.of_row (heap_alloc_new _ _) hsz hcs hn
end
structure V where
 k:Int
 n:Int
 s:ByteArray
structure C where
 name:ByteArray
 kind:Int
 null:Bool
 uniq:Bool
 ref:Int
structure E where
 kind:Int
 name:ByteArray
 table:Int
 col:Int
 root:Int
def V.cells (x:V):List Value:=[.int .i64 x.k,.int .i64 x.n,.string x.s]
def C.cells (x:C):List Value:=[.string x.name,.int .i64 x.kind,.bool x.null,.bool x.uniq,.int .i64 x.ref]
def E.cells (x:E):List Value:=[.int .u8 x.kind,.string x.name,.int .i64 x.table,.int .i64 x.col,.int .i64 x.root]
theorem V.len (x:V):x.cells.length=3:=rfl
theorem C.len (x:C):x.cells.length=5:=rfl
theorem E.len (x:E):x.cells.length=5:=rfl
section
variable {w:World} {b o:Nat}
theorem V.row {x:V} (h:∀ j u,x.cells[j]?=some u→w.cell? ⟨b,o+j,none⟩=some u):w.cell? ⟨b,o,none⟩=some (.int .i64 x.k)∧w.cell? ⟨b,o+1,none⟩=some (.int .i64 x.n)∧w.cell? ⟨b,o+2,none⟩=some (.string x.s):=
 ⟨h 0 _ rfl,h 1 _ rfl,h 2 _ rfl⟩
theorem C.row {x:C} (h:∀ j u,x.cells[j]?=some u→w.cell? ⟨b,o+j,none⟩=some u):w.cell? ⟨b,o,none⟩=some (.string x.name)∧w.cell? ⟨b,o+1,none⟩=some (.int .i64 x.kind)∧w.cell? ⟨b,o+2,none⟩=some (.bool x.null)∧w.cell? ⟨b,o+3,none⟩=some (.bool x.uniq)∧w.cell? ⟨b,o+4,none⟩=some (.int .i64 x.ref):=
 ⟨h 0 _ rfl,h 1 _ rfl,h 2 _ rfl,h 3 _ rfl,h 4 _ rfl⟩
theorem E.row {x:E} (h:∀ j u,x.cells[j]?=some u→w.cell? ⟨b,o+j,none⟩=some u):w.cell? ⟨b,o,none⟩=some (.int .u8 x.kind)∧w.cell? ⟨b,o+1,none⟩=some (.string x.name)∧w.cell? ⟨b,o+2,none⟩=some (.int .i64 x.table)∧w.cell? ⟨b,o+3,none⟩=some (.int .i64 x.col)∧w.cell? ⟨b,o+4,none⟩=some (.int .i64 x.root):=
 ⟨h 0 _ rfl,h 1 _ rfl,h 2 _ rfl,h 3 _ rfl,h 4 _ rfl⟩
end
def bI {α:Type} (p:α→Bool) (xs:List α):Int:=if xs.findIdx p<xs.length then (xs.findIdx p:Int) else -1
theorem fM {α:Type} {p:α→Bool} {xs:List α} {k:Nat} (hk:k<xs.length) (h:p xs[k]=true) (hn:∀ j (h:j<xs.length),j<k→p xs[j]=false):bI p xs=k:=by have e:xs.findIdx p=k:=(List.findIdx_eq hk).2 ⟨h,fun j hj=>hn j (by omega) hj⟩;unfold bI;rw [e,if_pos hk]
theorem dZ {α:Type} {p:α→Bool} {xs:List α} {k:Nat} (hk:¬ k<xs.length) (hn:∀ j (h:j<xs.length),j<k→p xs[j]=false):bI p xs=-1:=by
 have e:xs.findIdx p=xs.length:=List.findIdx_eq_length.2 fun x hx=>by
  obtain ⟨j,hj,rfl⟩:=List.getElem_of_mem hx;exact hn j hj (by omega)
 unfold bI;rw [e,if_neg (by omega)]
theorem zw {k:IntKind} {a b:Int} (h:a=b):Ending.returned (.int k a)=.returned (.int k b):=by rw [h]
theorem vI {a b:Bool} (h:a=b):Ending.returned (.bool a)=.returned (.bool b):=by rw [h]
theorem zU {α:Type} {p:α→Bool} {xs:List α} {k:Nat} (hn:∀ j (h:j<xs.length),j<k→p xs[j]=false) (hk:k<xs.length) (h:p xs[k]=false):∀ j (h:j<xs.length),j<k+1→p xs[j]=false:=by
 intro j hj hlt;by_cases e:j=k
 ·subst e;exact h
 ·exact hn j hj (by omega)
def New (w:World) (v:Value):Prop:=∀ g,v.ownBlock=some g→w.heap.size≤g
theorem New.nil {w:World}:New w (.slice none 0 0):=fun g h=>by cases h
theorem New.at_ {w:World} {g n c:Nat} (h:w.heap.size≤g):New w (.slice (some ⟨g,0,none⟩) n c):=fun g' h'=>by
 simp only [Value.ownBlock,Option.some.injEq] at h';omega
end Go.Proofs.YtdmhbgpejppbkaaGreat
