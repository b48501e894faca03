/- tree.cut. -/
import Derived.Test.YtknioodagnjchaaGreatDoorRTCutA
import Derived.Test.YtknioodagnjchaaGreatDoorRTCutB
import Derived.Test.YtknioodagnjchaaGreatDoorRTCutC
namespace Go.Proofs.YtknioodagnjchaaGreatDoor
open Go.RowKit
theorem sy (n:Nd) (i B:Nat) (v:Value) (w:World) (h:NdF B w v n) (hf:n.Fit) (hs:n.Bd) (hi:i<n.keys.length):
  Calls Tryz.prog 221 #[v,.int .i64 i] w fun e w'=>∃ vl vr,e=.returned (.tuple #[vl,.string (al (aM n i).2.1),vr])∧SubN v vl n (aM n i).1∧SubN v vr n (aM n i).2.2∧Below w.heap.size w w':=by
 cases hl:n.leaf
 ·have h0:=h;obtain ⟨vk,vc,vd,rfl,h1,h2,h3⟩:=h;have hne:n.keys≠[]:=by intro e;rw [e] at hi;simp at hi
  obtain ⟨b1,o1,c1,rfl,-⟩:=h1.form hne;by_cases hq:c1=i+1
  ·exact rz n i B _ w h0 hf hs hi hl (fun b o c vc vd he=>by
    injection he with he
    have:c1=c:=by have:=congrArg (fun a:Array Value=>a.getD 1 undef) he;simp at this;exact this.2
    omega)
  ·exact ry n i B _ w h0 hf hs hi hl (fun b o c vc vd he=>by
    injection he with he
    have:c1=c:=by have:=congrArg (fun a:Array Value=>a.getD 1 undef) he;simp at this;exact this.2
    omega)
 ·exact rv n i B v w h hf hs hi hl
end Go.Proofs.YtknioodagnjchaaGreatDoor
