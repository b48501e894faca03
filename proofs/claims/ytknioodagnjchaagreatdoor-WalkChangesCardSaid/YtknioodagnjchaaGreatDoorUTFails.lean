/- The walk of cahierlaw16.TreeFails. -/
import Derived.Test.YtknioodagnjchaaGreatDoorUTGone
namespace Go.Proofs.YtknioodagnjchaaGreatDoor
open Go.RowKit
theorem GetP.ret {e:Ending} {a:Ans (Option By)} (h:GetP e a):∃ v,e=.returned v:=by
 rcases a with (_ | v) | x
 ·exact ⟨_,h⟩
 ·exact ⟨_,h⟩
 ·exact ⟨_,h⟩
theorem AldP.ret {e:Ending} {a:Ans Bool} (h:AldP e a):∃ v,e=.returned v:=by cases a <;> exact ⟨_,h⟩
theorem LstP.ret {b:Nat} {w:World} {e:Ending} {a:Ans (List Int)} (h:LstP b w e a):∃ v,e=.returned v:=by
 cases a
 ·obtain ⟨v,h,_⟩:=h;exact ⟨_,h⟩
 ·exact ⟨_,h.1⟩
theorem Sl.str1 {w:World} {A:Option Addr} {n c k:Nat} {xs:List By} (h:Sl sC 1 w (.slice A n c) xs) (hk:k<xs.length):∃ b off,A=some ⟨b,off,none⟩∧b<w.heap.size∧w.cell? ⟨b,off+k,none⟩=some (.string (ap xs[k])):=by
 rcases h.cases with ⟨_,_,_,h0⟩ | ⟨b,off,c',he,-,hbl,hsl⟩
 ·rw [h0] at hk;simp at hk
 ·injection he with e1 e2 e3
  have:=(hsl.cells hk).2 0 _ rfl;simp only [Nat.mul_one,Nat.add_zero] at this;exact ⟨b,off,e1,hbl,this⟩
end Go.Proofs.YtknioodagnjchaaGreatDoor
