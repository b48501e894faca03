/- tree: read, kid, size, fits. Rows of the call's own, turned in place: what slices.Insert, Delete, Clone, Concat want. slices.Insert at rows of the call's own. slices.Delete of one element, Clone, Grow, Concat of two, at rows. tree: Make, Get. Slices whose blocks lie from a place on; nodes of such. -/
import Derived.Test.YtknioodagnjchaaGreatDoorBGh
import Derived.Test.YtknioodagnjchaaGreatDoorBGa
import Derived.Test.YtknioodagnjchaaGreatDoorBGg
import Derived.Test.YtknioodagnjchaaGreatDoorBGb
import Derived.Laws.IdiomCopy
import Derived.Lib.SliceRun
import Derived.Lib.AppendZerosOnto
import Derived.Lib.Overlaps
import Derived.Deep.RegionLaw
import Derived.Shelf.Spec.SlicesInsertGrow
import Derived.Shelf.Slices.Delete
import Derived.BigRegion
set_option maxRecDepth 100000
set_option maxHeartbeats 4000000
namespace Go.Proofs.YtknioodagnjchaaGreatDoor
open Go.Lib renaming hid->Z
open Go.RowKit
structure Nd.Sm (m:Nat) (n:Nd):Prop where
 k:n.keys.length<=m
 c:n.cells.length<=m
 d:n.kids.length<=m+1
 kl:∀ k ∈ n.keys,k.length<=64
 cl:∀ c ∈ n.cells,c.data.length<=40
theorem Nd.Sm.bd {m:Nat} {n:Nd} (h:n.Sm m) (hm:m<=1999):n.Bd:=⟨by have:=h.k;omega,by have:=h.c;omega,by have:=h.d;omega,fun k hk=>by have:=h.kl k hk;omega,fun c hc=>by have:=h.cl c hc;omega⟩
theorem Nd.Sm.mono {m m':Nat} {n:Nd} (h:n.Sm m) (hm:m<=m'):n.Sm m':=⟨by have:=h.k;omega,by have:=h.c;omega,by have:=h.d;omega,h.kl,h.cl⟩
theorem uG {c:Ce} (h:aI c=true):c.data.length<=40:=by
 by_cases h2:40<c.size
 ·rw [(fw h h2).1];simp
 ·have:=fJ h h2;omega
theorem xW {n:Nd} (h:aD n=true) {m:Nat} (hk:n.keys.length<=m):n.Sm m:=by
 cases hl:n.leaf
 ·obtain ⟨h1,h2,h3,h4,h5,h6⟩:=aQ h hl;exact ⟨hk,by rw [h4];simp,by omega,bQ h1,by rw [h4];simp⟩
 ·obtain ⟨h1,h2,h3,h4⟩:=cD h hl;exact ⟨hk,by omega,by rw [h3];simp,bQ h1,fun c hc=>uG (h4 c hc)⟩
theorem pS {l:By} {n:Nd} (h:dO l=some n):aD n=true/\n.Sm 229:=by obtain ⟨h1,h2,_⟩:=eu h;have:=jE h1;exact ⟨h1,xW h1 (by omega)⟩
def qJ:Value:=.agg #[.bool false,.slice none 0 0,.slice none 0 0,.slice none 0 0]
def RdP (base:Nat) (w:World) (e:Ending):Ans Nd->Prop
 | .ok n=>∃ v,e=.returned (.tuple #[v,.int .i64 0])/\NdO base w v n
 | .err x=>e=.returned (.tuple #[qJ,.int .i64 x])
theorem en {at_:Int} {s s':Sf} {n:Nd} (h:(bl at_).run s=(s',.ok n)):aD n=true/\n.Sm 229:=by
 unfold bl at h;simp only [Pro.run] at h
 split at h
 ·split at h
  ·cases h
  ·rename_i hd
   have:=pS hd;injection h with _ h
   injection h with h
   exact h ▸ this
 ·cases h
theorem NdO.below {base:Nat} {w w':World} {v:Value} {n:Nd} (h:NdO base w v n) (hb:Below w.heap.size w w'):NdO base w' v n:=by obtain ⟨vk,vc,vd,rfl,h1,h2,h3,h4⟩:=h;exact ⟨vk,vc,vd,rfl,h1.below hb,h2.below hb,h3.below hb,h4⟩
theorem NdO.ch {base:Nat} {w w':World} {S:Nat->Prop} {v:Value} {n:Nd} (h:NdO base w v n) (hc:Ch S w w') (hs:∀ j,base<=j->¬ S j):NdO base w' v n:=by obtain ⟨vk,vc,vd,rfl,h1,h2,h3,h4⟩:=h;exact ⟨vk,vc,vd,rfl,h1.ch hc (fun j hj=>hs j (h1.lt j hj).1),h2.ch hc (fun j hj=>hs j (h2.lt j hj).1),h3.ch hc (fun j hj=>hs j (h3.lt j hj).1),h4⟩
theorem NdO.base {base base':Nat} {w:World} {v:Value} {n:Nd} (h:NdO base w v n) (hb:base'<=base):NdO base' w v n:=by obtain ⟨vk,vc,vd,rfl,h1,h2,h3,h4⟩:=h;exact ⟨vk,vc,vd,rfl,h1.base hb,h2.base hb,h3.base hb,h4⟩
theorem dE (at_:Int) (gs gm:Nat) (s:Sf) (w:World) (hS:ShIs w gs gm s):
  Calls Tryz.prog 58 #[co gs,.int .i64 at_] w fun e w'=>RdP w.heap.size w' e ((bl at_).run s).2/\ShIs w' gs gm ((bl at_).run s).1/\Ch (fun k=>k=gs\/k=gm) w w':=by
 have HA:=Z (hS.ch (S:=fun _=>False) (Ch.alloc (Ch.refl _ w) (ar Nd.zero (.slice none 0 0) (.slice none 0 0) (.slice none 0 0))) id id);have HZ:=Z (ag (w0:=w) (g:=w.heap.size) (o:=ar Nd.zero (.slice none 0 0) (.slice none 0 0) (.slice none 0 0)) rfl);have HC:=Z (Ch.alloc (Ch.refl (fun k=>k=gs\/k=gm) w) (ar Nd.zero (.slice none 0 0) (.slice none 0 0) (.slice none 0 0)));have hs1:w.heap.size<(w.alloc (ar Nd.zero (.slice none 0 0) (.slice none 0 0) (.slice none 0 0))).heap.size:=by simp
 have hgs:=aj hS.blk;have hgm:=hS.book.lt;have hl232:=hS.ok.l at_
 have HRT:=Z (show (bl at_).run s=if bt s at_=0 then (match dO (s.B at_) with | none=>(bF s,.err 30) | some n=>(bF s,.ok n)) else (bF s,.err (bt s at_)) by
  unfold bl;simp only [Pro.run];cases dO (s.B at_) <;> rfl)
 clear hS;unfold co;go_enter Tryz.func58,Tryz.ntmps58;go_upto_region 1 with fail
 generalize hw1:w.alloc (.cells #[.bool false,.slice none 0 0,.slice none 0 0,.slice none 0 0] 110)=w1 at *;have hw2:w.alloc (ar Nd.zero (.slice none 0 0) (.slice none 0 0) (.slice none 0 0))=w1:=hw1;rw [hw2] at HA HZ HC hs1;clear hw1 hw2;go_wp2_with fail;refine (mD at_ gs gm s w1 HA.out).mono ?_;rintro e w2 ⟨rfl,hs,hc⟩;have HS2:=Z hs;have HC2:=Z (HC.out.trans (hc.mono (fun _ _ h=>.inl h)));have HZ2:=Z (hc.keep HZ.out (by omega));have hsz2:w1.heap.size<=w2.heap.size:=hc.size;clear hs hc;obtain ⟨o0,o1,o2,o3,o4⟩:=aa HZ2.out;have q0:=ab HZ2.out 0;have q1:=ab HZ2.out 1;have q2:=ab HZ2.out 2;have q3:=ab HZ2.out 3;simp only [Nd.zero] at o0;by_cases hbe:bt s at_=0
 ·have HGV:=Z (show gQ s at_=s.B at_ by unfold gQ;rw [if_pos hbe]);rw [HGV.out,hbe];have HR2:=Z (HRT.out.trans (if_pos hbe));generalize s.B at_=l at *;go_wp2_with fail;refine (sE l hl232 w2).mono ?_;rintro e w3 ⟨v,c,rfl,hp,hb⟩;have HS3:=Z (HS2.out.ch (S:=fun _=>False) (Ch.zK hb) id id);have HC3:=Z (HC2.out.trans (Ch.zK hb));have HZ3:=Z (af HZ2.out hb);have hsz3:w2.heap.size<=w3.heap.size:=hb.size;clear hb o0 o1 o2 o3 o4 q0 q1 q2 q3;cases hd:dO l with
  | none=>
    rw [hd] at hp;obtain ⟨rfl,rfl⟩:=hp;have HV:=Z (show (bl at_).run s=(bF s,.err 30) by rw [HR2.out,hd]);have HZ4:=Z (am HZ3.out (ar Nd.zero (.slice none 0 0) (.slice none 0 0) (.slice none 0 0)));have HS4:=Z (HS3.out.ch (S:=fun _=>False) (Ch.alloc (Ch.refl _ w3) (ar Nd.zero (.slice none 0 0) (.slice none 0 0) (.slice none 0 0))) id id);have HC4:=Z (Ch.alloc HC3.out (ar Nd.zero (.slice none 0 0) (.slice none 0 0) (.slice none 0 0)));go_upto_region 5 with fail
    generalize hw1:w3.alloc (.cells #[.bool false,.slice none 0 0,.slice none 0 0,.slice none 0 0] 110)=w4 at *;have hw2:w3.alloc (ar Nd.zero (.slice none 0 0) (.slice none 0 0) (.slice none 0 0))=w4:=hw1;rw [hw2] at HZ4 HS4 HC4;clear hw1 hw2;obtain ⟨o0,o1,o2,o3,o4⟩:=aa HZ4.out;have q0:=ab HZ4.out 0;have q1:=ab HZ4.out 1;have q2:=ab HZ4.out 2;have q3:=ab HZ4.out 3;simp only [Nd.zero] at o0;go_wp2_with fail;have hf:=ai (ai (ai (ai HZ4.out 0 (.bool false)) 1 (.slice none 0 0)) 2 (.slice none 0 0)) 3 (.slice none 0 0);obtain ⟨z0,z1,z2,z3,-⟩:=aa (n:=Nd.zero) hf;simp only [Nd.zero] at z0;have HC0:=Z ((((Ch.refl (fun j=>j=w.heap.size) w4).setCell (p:=⟨w.heap.size,0,none⟩) rfl (.bool false)).setCell (p:=⟨w.heap.size,1,none⟩) rfl (.slice none 0 0)).setCell (p:=⟨w.heap.size,2,none⟩) rfl (.slice none 0 0) |>.setCell (p:=⟨w.heap.size,3,none⟩) rfl (.slice none 0 0))
    exact bodyPost_ret (v:=.tuple #[qJ,.int .i64 30]) (by simp [results,Tryz.results58,go_sem,z0,z1,z2,z3,qJ]) rfl
     ⟨by rw [HV.out];exact rfl,by rw [HV.out];exact HS4.out.ch HC0.out (by omega) (by omega),HC4.out.then HC0.out (fun i hi=>.inr (by omega))⟩
  | some n=>
    rw [hd] at hp;obtain ⟨rfl,vk,vc,vd,rfl,h1,h2,h3,h4⟩:=hp;obtain ⟨A1,c1,rfl⟩:=Sl.zM (h1.sl aG);obtain ⟨A2,c2,rfl⟩:=Sl.zM (h2.sl bx);obtain ⟨A3,c3,rfl⟩:=Sl.zM (h3.sl ax);have HV:=Z (show (bl at_).run s=(bF s,.ok n) by rw [HR2.out,hd]);have HN:=Z (show NdO w2.heap.size w3 (.agg #[.bool n.leaf,.slice A1 n.keys.length c1,.slice A2 n.cells.length c2,.slice A3 n.kids.length c3]) n from ⟨_,_,_,rfl,h1,h2,h3,h4⟩);have HZ4:=Z (am HZ3.out (ar n (.slice A1 n.keys.length c1) (.slice A2 n.cells.length c2) (.slice A3 n.kids.length c3)));have HX4:=Z (ag (w0:=w3) (g:=w3.heap.size) (o:=ar n (.slice A1 n.keys.length c1) (.slice A2 n.cells.length c2) (.slice A3 n.kids.length c3)) rfl);have HS4:=Z (HS3.out.ch (S:=fun _=>False) (Ch.alloc (Ch.refl _ w3) (ar n (.slice A1 n.keys.length c1) (.slice A2 n.cells.length c2) (.slice A3 n.kids.length c3))) id id);have HC4:=Z (Ch.alloc HC3.out (ar n (.slice A1 n.keys.length c1) (.slice A2 n.cells.length c2) (.slice A3 n.kids.length c3)));have HN4:=Z (HN.out.below ((Below.refl _ w3).alloc (Nat.le_refl _) (ar n (.slice A1 n.keys.length c1) (.slice A2 n.cells.length c2) (.slice A3 n.kids.length c3))));clear h1 h2 h3 h4 hd;go_upto_region 5 with fail
    generalize hw1:w3.alloc (.cells #[.bool n.leaf,.slice A1 n.keys.length c1,.slice A2 n.cells.length c2,.slice A3 n.kids.length c3] 110)=w4 at *;have hw2:w3.alloc (ar n (.slice A1 n.keys.length c1) (.slice A2 n.cells.length c2) (.slice A3 n.kids.length c3))=w4:=hw1;rw [hw2] at HZ4 HS4 HC4 HX4 HN4;clear hw1 hw2;obtain ⟨o0,o1,o2,o3,o4⟩:=aa HZ4.out;obtain ⟨a0,a1,a2,a3,a4⟩:=aa HX4.out;have q0:=ab HZ4.out 0;have q1:=ab HZ4.out 1;have q2:=ab HZ4.out 2;have q3:=ab HZ4.out 3;simp only [Nd.zero] at o0;go_wp2_with fail;have hf:=ai (ai (ai (ai HZ4.out 0 (.bool n.leaf)) 1 (.slice A1 n.keys.length c1)) 2 (.slice A2 n.cells.length c2)) 3 (.slice A3 n.kids.length c3);obtain ⟨z0,z1,z2,z3,-⟩:=aa (n:=n) hf;have HC0:=Z ((((Ch.refl (fun j=>j=w.heap.size) w4).setCell (p:=⟨w.heap.size,0,none⟩) rfl (.bool n.leaf)).setCell (p:=⟨w.heap.size,1,none⟩) rfl (.slice A1 n.keys.length c1)).setCell (p:=⟨w.heap.size,2,none⟩) rfl (.slice A2 n.cells.length c2) |>.setCell (p:=⟨w.heap.size,3,none⟩) rfl (.slice A3 n.kids.length c3))
    exact bodyPost_ret (v:=.tuple #[.agg #[.bool n.leaf,.slice A1 n.keys.length c1,.slice A2 n.cells.length c2,.slice A3 n.kids.length c3],.int .i64 0]) (by simp [results,Tryz.results58,go_sem,z0,z1,z2,z3]) rfl
     ⟨by rw [HV.out];exact ⟨_,rfl,(HN4.out.ch HC0.out (fun j hj e=>by omega)).base (by omega)⟩,
      by rw [HV.out];exact HS4.out.ch HC0.out (by omega) (by omega),HC4.out.then HC0.out (fun i hi=>.inr (by omega))⟩
 ·have HV:=Z (HRT.out.trans (if_neg hbe));generalize bt s at_=be at *;generalize gQ s at_=gv at *;have hbe2:(be == 0)=false:=by simpa using hbe
  go_wp2_with fail;have hf:=ai (ai (ai (ai HZ2.out 0 (.bool false)) 1 (.slice none 0 0)) 2 (.slice none 0 0)) 3 (.slice none 0 0);obtain ⟨z0,z1,z2,z3,-⟩:=aa (n:=Nd.zero) hf;simp only [Nd.zero] at z0;have HC0:=Z ((((Ch.refl (fun j=>j=w.heap.size) w2).setCell (p:=⟨w.heap.size,0,none⟩) rfl (.bool false)).setCell (p:=⟨w.heap.size,1,none⟩) rfl (.slice none 0 0)).setCell (p:=⟨w.heap.size,2,none⟩) rfl (.slice none 0 0) |>.setCell (p:=⟨w.heap.size,3,none⟩) rfl (.slice none 0 0))
  exact bodyPost_ret (v:=.tuple #[qJ,.int .i64 be]) (by simp [results,Tryz.results58,go_sem,z0,z1,z2,z3,qJ]) rfl
   ⟨by rw [HV.out];exact rfl,by rw [HV.out];exact HS2.out.ch HC0.out (by omega) (by omega),HC2.out.then HC0.out (fun i hi=>.inr (by omega))⟩
theorem pN (n:Nd) (k:By) (v:Value) (w:World) (h:NdV w v n) (hb:n.Bd) (hg:aD n=true):Calls Tryz.prog 59 #[v,.string (ap k)] w fun e w'=>e=.returned (.int .i64 (cK n k))/\Below w.heap.size w w':=by
 have HGD:=Z hg;have HLB:=Z (show cj n.keys k<=n.keys.length from (List.takeWhile_sublist _).length_le);clear hg;obtain ⟨vk,vc,vd,rfl,hs⟩:=h;have HW0:=Z ((Below.refl _ w).alloc (Nat.le_refl _) (ar n vk vc vd));have HG0:=Z (ag (w0:=w) (g:=w.heap.size) (o:=ar n vk vc vd) rfl);have HS0:=Z (hs.keep HW0.out);have HB:=Z hb;clear hs hb;go_enter Tryz.func59,Tryz.ntmps59;go_upto_region 1 with fail
 generalize hw1:w.alloc (.cells #[.bool n.leaf,vk,vc,vd] 110)=w1 at *;have hw2:w.alloc (ar n vk vc vd)=w1:=hw1;rw [hw2] at HW0 HG0 HS0;clear hw1 hw2;obtain ⟨a0,a1,a2,a3,a4⟩:=aa HG0.out;go_wp2_with fail;refine (kw n k _ w1 ⟨vk,vc,vd,rfl,HS0.out⟩ HB.out HGD.out).mono ?_;rintro e w2 ⟨rfl,hb⟩;have HW2:=Z (HW0.out.trans (hb.mono HW0.out.size));clear hb a0 a1 a2 a3 a4;have hbk:=HB.out.k;have hlb:=HLB.out;cases hi:jT n.keys k
 ·have HV:=Z (show cK n k=cj n.keys k by unfold cK;rw [hi];rfl);go_wp2_with fail;go_ret;exact ⟨by rw [HV.out];rfl,HW2.out⟩
 ·have HV:=Z (show cK n k=cj n.keys k+1 by unfold cK;rw [hi];rfl);go_wp2_with fail;go_ret;exact ⟨by rw [HV.out];go_num,HW2.out⟩
theorem fW (n:Nd) (v:Value) (w:World) (h:NdV w v n) (hb:n.Bd):Calls Tryz.prog 174 #[v] w fun e w'=>e=.returned (.int .i64 (bf n))/\Below w.heap.size w w':=by
 obtain ⟨vk,vc,vd,rfl,hs⟩:=h;obtain ⟨A1,c1,rfl⟩:=Sl.zM hs.k;have HT:=Z (show bf n=if n.leaf=false/\n.keys.length=0 then 0 else iP n by
  unfold bf;cases n.leaf <;> cases n.keys <;> simp)
 have HW0:=Z ((Below.refl _ w).alloc (Nat.le_refl _) (ar n (.slice A1 n.keys.length c1) vc vd));have HG0:=Z (ag (w0:=w) (g:=w.heap.size) (o:=ar n (.slice A1 n.keys.length c1) vc vd) rfl);have HS0:=Z (hs.keep HW0.out);have HB:=Z hb;have hbk:=hb.k;clear hs hb;go_enter Tryz.func174,Tryz.ntmps174;go_upto_region 1 with fail
 generalize hw1:w.alloc (.cells #[.bool n.leaf,.slice A1 n.keys.length c1,vc,vd] 110)=w1 at *;have hw2:w.alloc (ar n (.slice A1 n.keys.length c1) vc vd)=w1:=hw1;rw [hw2] at HW0 HG0 HS0;clear hw1 hw2;obtain ⟨a0,a1,a2,a3,a4⟩:=aa HG0.out;have HSZ:=Z ((vG n _ w1 ⟨_,vc,vd,rfl,HS0.out⟩ HB.out));cases hl:n.leaf
 ·rw [hl] at a0 HSZ;by_cases hk:n.keys.length=0
  ·have HV:=Z (show bf n=0 by rw [HT.out,if_pos ⟨hl,hk⟩]);have hk2:((n.keys.length:Int) == 0)=true:=by rw [hk];rfl
   go_wp2_with fail;go_ret;exact ⟨by rw [HV.out];rfl,HW0.out⟩
  ·have HV:=Z (show bf n=iP n by rw [HT.out,if_neg (fun h=>hk h.2)]);have hk2:((n.keys.length:Int) == 0)=false:=by simpa using hk
   go_wp2_with fail;refine HSZ.out.mono ?_;rintro e w2 ⟨rfl,hb⟩;have HW2:=Z (HW0.out.trans (hb.mono HW0.out.size));clear hb a0 a1 a2 a3 a4;go_wp2_with fail;go_ret;exact ⟨by rw [HV.out];rfl,HW2.out⟩
 ·have HV:=Z (show bf n=iP n by rw [HT.out,if_neg (fun h=>by rw [hl] at h;cases h.1)]);rw [hl] at a0 HSZ;go_wp2_with fail;refine HSZ.out.mono ?_;rintro e w2 ⟨rfl,hb⟩;have HW2:=Z (HW0.out.trans (hb.mono HW0.out.size));clear hb a0 a1 a2 a3 a4;go_wp2_with fail;go_ret;exact ⟨by rw [HV.out];rfl,HW2.out⟩
theorem eC (n:Nd) (v:Value) (w:World) (h:NdV w v n) (hb:n.Bd):Calls Tryz.prog 136 #[v] w fun e w'=>e=.returned (.bool (bw n))/\Below w.heap.size w w':=by
 obtain ⟨vk,vc,vd,rfl,hs⟩:=h;have HW0:=Z ((Below.refl _ w).alloc (Nat.le_refl _) (ar n vk vc vd));have HG0:=Z (ag (w0:=w) (g:=w.heap.size) (o:=ar n vk vc vd) rfl);have HS0:=Z (hs.keep HW0.out);have HB:=Z hb;clear hs hb;go_enter Tryz.func136,Tryz.ntmps136;go_upto_region 1 with fail
 generalize hw1:w.alloc (.cells #[.bool n.leaf,vk,vc,vd] 110)=w1 at *;have hw2:w.alloc (ar n vk vc vd)=w1:=hw1;rw [hw2] at HW0 HG0 HS0;clear hw1 hw2;obtain ⟨a0,a1,a2,a3,a4⟩:=aa HG0.out;go_wp2_with fail;refine (fW n _ w1 ⟨vk,vc,vd,rfl,HS0.out⟩ HB.out).mono ?_;rintro e w2 ⟨rfl,hb⟩;have HW2:=Z (HW0.out.trans (hb.mono HW0.out.size));clear hb a0 a1 a2 a3 a4;have HV:=Z (show bw n=decide ((bf n:Int)<=232) by
  unfold bw;by_cases h:bf n<=232
  ·rw [decide_eq_true h,decide_eq_true (by omega)]
  ·rw [decide_eq_false h,decide_eq_false (by omega)])
 generalize bf n=m at *;go_wp2_with fail;go_ret;exact ⟨by rw [HV.out];rfl,HW2.out⟩
end Go.Proofs.YtknioodagnjchaaGreatDoor
namespace Go.Proofs.YtknioodagnjchaaGreatDoor
open List renaming length_take->Bt,length_append->Bv,length_drop->Bx,append_assoc->Bz,take_of_length_le->BB,flatMap_cons->BC,take_append->BD,size_toArray->BE,length_insertIdx_of_le_length->BG,drop->BH,flatMap_append->BI,take_take->BK,drop_of_length_le->BL,length_set->BN,take->BP,flatMap->BS,length_cons->BT,drop_append->BU,append_nil->BV,nil_append->BW
open Nat renaming min_eq_left->Bw,mul_le_mul_right->BA,succ_mul->BF,lt_of_lt_of_le->BQ
open Go.World renaming setCells->BJ
open Go renaming Value->BM,run_storeCells_cells->BO,World->BR
open Go.RowKit
theorem bS {g:Nat} {e:TypeId}:∀ (vs:List BM) (o:Nat) {w:BR} {cs:Array BM},w.heap[g]?=some (.cells cs e (0,0))->o+vs.length<=cs.size->
  (w.setCells g o vs).heap[g]?=some (.cells (cs.toList.take o ++ vs ++ cs.toList.drop (o+vs.length)).toArray e (0,0))
 | [],o,w,cs,h,hs=>by
   simp only [BJ,List.length_nil,Nat.add_zero,BV,List.take_append_drop];exact h
 | v :: r,o,w,cs,h,hs=>by
   rw [BT] at hs;rw [BJ,bS r (o+1) (ai h o v) (by simp;omega)];congr 2;have hl:o<cs.toList.length:=by simp;omega
   rw [Array.toList_setIfInBounds];have e1:(cs.toList.set o v).take (o+1)=cs.toList.take o ++ [v]:=by rw [List.take_set,List.take_succ_eq_append_getElem hl];rw [List.set_append_right _ _ (by rw [Bt];omega),Bt,Bw (by omega),Nat.sub_self];rfl
   have e2:(cs.toList.set o v).drop (o+1+r.length)=cs.toList.drop (o+1+r.length):=List.drop_set_of_lt (by omega);rw [e1,e2,BT,show o+(r.length+1)=o+1+r.length by omega];simp
theorem dx {g:Nat}:∀ (vs:List BM) (o:Nat) (w:BR),Ch (fun k=>k=g) w (w.setCells g o vs)
 | [],_,w=>Ch.refl _ w
 | v :: r,o,w=>((Ch.refl (fun k=>k=g) w).setCell (p:=⟨g,o,none⟩) rfl v).trans (dx r (o+1) _)
theorem aB {w w':BR} {g o:Nat} {row:Option Nat} (h:w.grownBy w' row) (hr:row=some g\/w.heap.size<=g) (vs:List BM):w.grownBy (w'.setCells g o vs) row:=by
 have hc:=dx (g:=g) vs o w';refine ⟨hc.os.trans h.os,hc.tape.trans h.tape,hc.output.trans h.output,Nat.le_trans h.size hc.size,fun k hk hn=>?_⟩
 rw [hc.block k (BQ hk h.size) (fun e=>by
  subst e;rcases hr with hr | hr
  ·exact hn hr.symm
  ·omega)]
 exact h.block k hk hn
theorem bW {w w':BR} {row:Option Nat} (h:w.grownBy w' row):w.grownBy w'.drew row:=⟨h.os,h.tape,h.output,h.size,h.block⟩
theorem cG (w:BR) (row:Option Nat):w.grownBy w row:=⟨rfl,rfl,rfl,Nat.le_refl _,fun _ _ _=>rfl⟩
theorem jf {w w':BR} {row:Option Nat} (h:w.grownBy w' row) (o:Obj):w.grownBy (w'.alloc o) row:=by refine ⟨h.os,h.tape,h.output,Nat.le_trans h.size (by simp),fun k hk hn=>?_⟩;rw [Below.heap_alloc w' o k (BQ hk h.size)];exact h.block k hk hn
theorem iu {α:Type}:∀ (xs:List α) (i:Nat) (x:α),i<=xs.length->xs.insertIdx i x=xs.take i ++ x :: xs.drop i
 | xs,0,x,_=>by simp
 | [],i+1,x,h=>by simp at h
 | a :: xs,i+1,x,h=>by
   rw [List.insertIdx_succ_cons,iu xs i x (by simpa using h)];rfl
theorem dy (b:Nat):∀ (vs:List BM) (o:Nat) (w:BR),w.drew.setCells b o vs=(w.setCells b o vs).drew
 | [],_,_=>rfl
 | v :: r,o,w=>by rw [BJ,BJ,<- dy b r];rfl
section
variable {α:Type} {f:α->List BM} {size:Nat} {e:TypeId} {base:Nat} {w w':BR} {v:BM} {xs ys:List α}
theorem cT (hl:∀ x,(f x).length=size):∀ (xs:List α) (i:Nat),(xs.flatMap f).take (i * size)=(xs.take i).flatMap f
 | [],i=>by simp
 | x :: xs,0=>by simp
 | x :: xs,i+1=>by
   rw [BC,List.take_succ_cons,BC,BF,Nat.add_comm,BD,hl,BB (by rw [hl];omega),show size+i * size - size=i * size by omega,cT hl xs i]
theorem dJ (hl:∀ x,(f x).length=size):∀ (xs:List α) (i:Nat),(xs.flatMap f).drop (i * size)=(xs.drop i).flatMap f
 | [],i=>by simp
 | x :: xs,0=>by simp
 | x :: xs,i+1=>by
   rw [BC,List.drop_succ_cons,BF,Nat.add_comm,BU,hl,BL (by rw [hl];omega),show size+i * size - size=i * size by omega,dJ hl xs i,BW]
theorem Own.AZ {A:Option Addr} {n c:Nat} (h:Own f size e base w (.slice A n c) xs) (hl:∀ x,(f x).length=size) {i:Nat} (hi:i<=xs.length):Own f size e base w (.slice A i c) (xs.take i):=by
 have hlen:(xs.take i).length=i:=by rw [Bt];omega
 refine ⟨aC f size hl _,?_⟩;rcases h.2 with ⟨hv,h0⟩ | ⟨g,cap,cur,hv,hb,hg,hn,hm,hc,ht⟩
 ·injection hv with e1 e2 e3
  subst e1 e3;exact .inl ⟨by rw [show i=0 by omega],by omega⟩
 ·injection hv with e1 e2 e3
  subst e1 e3;refine .inr ⟨g,c,cur,by rw [hlen],hb,hg,by omega,hm,hc,?_⟩;rw [hlen,<- cT hl,<- ht,BK,Bw (BA _ (by omega))]
theorem Own.AF {A:Option Addr} {n c:Nat} (h:Own f size e base w (.slice A n c) xs):n=xs.length:=by
 rcases h.2 with ⟨hv,h0⟩ | ⟨g,cap,cur,hv,_⟩
 ·injection hv with _ e2 _;omega
 ·injection hv with _ e2 _
theorem Own.zO {g n c o:Nat} (h:Own f size e base w (.slice (some ⟨g,0,none⟩) n c) xs) (hl:∀ x,(f x).length=size) {vs:List BM} (hn:ys.length<=c) (hr:o+vs.length<=c * size)
  (hy:∀ cur:List BM,cur.length=c * size->cur.take (n * size)=xs.flatMap f->(cur.take o ++ vs ++ cur.drop (o+vs.length)).take (ys.length * size)=ys.flatMap f):
  Own f size e base (w.setCells g o vs) (.slice (some ⟨g,0,none⟩) ys.length c) ys:=by
 refine ⟨aC f size hl _,?_⟩;have hln:=h.AF;rcases h.2 with ⟨hv,h0⟩ | ⟨g',cap,cur,hv,hb,hg,hn',hm,hc,ht⟩
 ·cases hv
 ·injection hv with e1 e2 e3
  injection e1 with e1
  injection e1 with e1
  subst e1 e3;have hcl:cur.toList.length=c * size:=by simpa using hc
  have hs:=bS vs o hg (by rw [hc];exact hr);refine .inr ⟨g,c,_,rfl,hb,hs,hn,hm,?_,?_⟩
  ·simp only [BE,Bv,Bt,Bx,Array.length_toList];rw [hc] at *;omega
  ·exact hy cur.toList hcl (by rw [hln];exact ht)
theorem Own.set {g n c i:Nat} (h:Own f size e base w (.slice (some ⟨g,0,none⟩) n c) xs) (hl:∀ x,(f x).length=size) (hi:i<xs.length) (x:α):Own f size e base (w.setCells g (i * size) (f x)) (.slice (some ⟨g,0,none⟩) n c) (xs.set i x):=by
 have hln:=h.AF;have hnc:n<=c:=by
  rcases h.2 with ⟨hv,h0⟩ | ⟨g',cap,cur,hv,hb,hg,hn',hm,hc,ht⟩
  ·cases hv
  ·injection hv with e1 e2 e3;omega
 have h1:i * size+size<=n * size:=by rw [<- BF];exact BA _ (by omega)
 have h2:n * size<=c * size:=BA _ hnc
 have:=h.zO (o:=i * size) (vs:=f x) (ys:=xs.set i x) hl (by rw [BN];omega) (by rw [hl];omega) (fun cur hcl ht=>by
  rw [BN,<- hln,hl];have e1:cur.take (i * size)=(xs.take i).flatMap f:=by rw [<- cT hl,<- ht,BK,Bw (by omega)]
  have e2:(cur.drop (i * size+size)).take (n * size - (i * size+size))=(xs.drop (i+1)).flatMap f:=by rw [<- dJ hl,<- ht,BF,List.drop_take]
  have e3:xs.set i x=xs.take i ++ x :: xs.drop (i+1):=List.set_eq_take_append_cons_drop .. |>.trans (by rw [if_pos hi]);rw [e3,BI,BC,<- e1,<- e2,Bz,BD,Bt,Bw (by omega),BB (by rw [Bt];omega)];congr 1;rw [BD,hl,BB (by rw [hl];omega)];congr 2;omega)
 rw [BN,<- hln] at this;exact this
theorem Own.insert {g n c i:Nat} (h:Own f size e base w (.slice (some ⟨g,0,none⟩) n c) xs) (hl:∀ x,(f x).length=size) (hi:i<=xs.length) (hroom:n+1<=c) (x:α):
  Own f size e base ((w.setCells g ((i+1) * size) ((xs.drop i).flatMap f)).setCells g (i * size) (f x)) (.slice (some ⟨g,0,none⟩) (n+1) c) (xs.insertIdx i x):=by
 have hln:=h.AF;have hxy:(xs.insertIdx i x).length=n+1:=by rw [BG hi];omega
 have e3:xs.insertIdx i x=xs.take i ++ x :: xs.drop i:=iu xs i x hi;have hdl:((xs.drop i).flatMap f).length=(n - i) * size:=by rw [aC f size hl,Bx,hln]
 have hadd:(i+1) * size+(n - i) * size=(n+1) * size:=by rw [<- Nat.add_mul];congr 1;omega
 have hcs:(n+1) * size<=c * size:=BA _ hroom;have hi1:(i+1) * size=i * size+size:=BF ..;have hn1:(n+1) * size=n * size+size:=BF ..;have hin:i * size<=n * size:=BA _ (by omega);refine ⟨aC f size hl _,?_⟩;rcases h.2 with ⟨hv,h0⟩ | ⟨g',cap,cur,hv,hb,hg,hn',hm,hc,ht⟩
 ·cases hv
 ·injection hv with e1 e2 e4
  injection e1 with e1
  injection e1 with e1
  subst e1 e4;have hcl:cur.toList.length=c * size:=by simpa using hc
  have hs:=bS ((xs.drop i).flatMap f) ((i+1) * size) hg (by rw [hc,hdl];omega);rw [hdl,hadd] at hs;have hs2:=bS (f x) (i * size) hs (by rw [hl];simp only [BE,Bv,Bt,Bx];omega);rw [hl] at hs2;simp only at hs2;refine .inr ⟨g,c,_,by rw [hxy],hb,hs2,by omega,hm,?_,?_⟩
  ·simp only [BE,Bv,Bt,Bx,hl,hdl,hcl];omega
  ·rw [hxy];simp only;have e1:cur.toList.take (i * size)=(xs.take i).flatMap f:=by rw [<- cT hl,<- ht,BK,Bw (by rw [<- hln];omega)]
   have e5:(BP (i * size) (BP ((i+1) * size) cur.toList ++ BS f (BH i xs) ++ BH ((n+1) * size) cur.toList))=(xs.take i).flatMap f:=by rw [Bz,BD,Bt,Bw (by omega),show i * size - (i+1) * size=0 by omega,List.take_zero,BV,BK,Bw (by omega),e1]
   have e6:(BH (i * size+size) (BP ((i+1) * size) cur.toList ++ BS f (BH i xs) ++ BH ((n+1) * size) cur.toList))=BS f (BH i xs) ++ BH ((n+1) * size) cur.toList:=by rw [Bz,BU,Bt,Bw (by omega),BL (by rw [Bt];omega),BW,show i * size+size - (i+1) * size=0 by omega,List.drop_zero]
   rw [e5,e6,e3,BI,BC,<- Bz,<- Bz,Bz,Bz];rw [<- Bz,<- Bz];have e7:((xs.take i).flatMap f ++ f x ++ (xs.drop i).flatMap f).length=(n+1) * size:=by simp only [Bv,aC f size hl,Bt,Bx,hl];rw [<- hln,Bw (by omega)];omega
   rw [<- e7,List.take_left]
theorem Own.zR {i cap:Nat} (hl:∀ x,(f x).length=size) (hi:i<=xs.length) (x:α) (hb:base<=w.heap.size) (hc:xs.length+1<=cap) (hm:cap<=maxLen)
  {cs:Array BM} (hcs:cs.size=cap * size) (ht:cs.toList.take (i * size)=(xs.take i).flatMap f):
  Own f size e base (((w.alloc (.cells cs e)).setCells w.heap.size (i * size) (f x)).setCells w.heap.size ((i+1) * size) ((xs.drop i).flatMap f)) (.slice (some ⟨w.heap.size,0,none⟩) (xs.length+1) cap) (xs.insertIdx i x):=by
 have hxy:(xs.insertIdx i x).length=xs.length+1:=by rw [BG hi]
 have e3:xs.insertIdx i x=xs.take i ++ x :: xs.drop i:=iu xs i x hi;have hdl:((xs.drop i).flatMap f).length=(xs.length - i) * size:=by rw [aC f size hl,Bx]
 have hadd:(i+1) * size+(xs.length - i) * size=(xs.length+1) * size:=by rw [<- Nat.add_mul];congr 1;omega
 have hcz:(xs.length+1) * size<=cap * size:=BA _ hc;have hi1:(i+1) * size=i * size+size:=BF ..;have hg:(w.alloc (.cells cs e)).heap[w.heap.size]?=some (.cells cs e (0,0)):=heap_alloc_new w _;have hcl:cs.toList.length=cap * size:=by simpa using hcs
 have hs:=bS (f x) (i * size) hg (by rw [hl,hcs];omega);rw [hl] at hs;have hs2:=bS ((xs.drop i).flatMap f) ((i+1) * size) hs (by rw [hdl];simp only [BE,Bv,Bt,Bx,hl,hcl];omega);rw [hdl,hadd] at hs2;refine ⟨aC f size hl _,.inr ⟨w.heap.size,cap,_,by rw [hxy],hb,hs2,by omega,hm,?_,?_⟩⟩
 ·simp only [BE,Bv,Bt,Bx,hl,hdl,hcl];omega
 ·rw [hxy];simp only;have e5:BP ((i+1) * size) (BP (i * size) cs.toList ++ f x ++ BH (i * size+size) cs.toList)=(xs.take i).flatMap f ++ f x:=by rw [BD,BB (by simp only [Bv,Bt,hl];omega),ht];rw [show (i+1) * size - ((xs.take i).flatMap f ++ f x).length=0 by rw [Bv,<- ht,Bt,hl,hcl];omega];simp
  rw [e5,e3,BI,BC,BD,BB (by simp only [Bv,aC f size hl,Bt,hl,Bx];rw [Bw hi];omega)];rw [show (xs.length+1) * size - ((xs.take i).flatMap f ++ f x ++ (xs.drop i).flatMap f).length=0 by simp only [Bv,aC f size hl,Bt,hl,Bx];rw [Bw hi];omega];simp
theorem Own.drew (h:Own f size e base w v xs):Own f size e base w.drew v xs:=h
end
theorem bU {P:Program} (w:BR) (dT sT ty elem:TypeId) (b o dLen dCap:Nat) (a:Addr) (sLen sCap:Nat) (cs:List BM) (size:Nat)
  (hu:P.underlying dT=some (.slice elem)) (hs:(P.info? elem).map (·.size)=some size) (hn:cs.length=Nat.min sLen dLen * size)
  (hsrc:∀ j v,cs[j]?=some v->w.cell? (a.add j)=some v) (hc:∀ j,j<cs.length->(w.cell? ⟨b,o+j,none⟩).isSome=true) (hf:∀ j,j<cs.length->w.frozen? ⟨b,o+j,none⟩=false) (h1:∀ v ∈ cs,v.oneCell'=true):
  (Builtin.copy_ #[dT,sT] ty #[.slice (some ⟨b,o,none⟩) dLen dCap,.slice (some a) sLen sCap]).run P w=.ok (goInt (Nat.min sLen dLen)) (w.setCells b o cs):=by
 have hl:=run_loadCells_list (P:=P) w a cs hsrc;have hst:=BO (P:=P) b o cs 0 w (by simpa using hc) (by simpa using hf) h1;cases hq:P.info? elem with
 | none=>simp [hq] at hs
 | some i=>
   have hi:i.size=size:=by simpa [hq] using hs
   simp [Builtin.copy_,run_underlying hu,Builtin.lenOf,Builtin.firstCells,sizeOf,typeInfo,hq,hi,<- hn,hl,hst]
theorem dU {P:Program} (w:BR) (t e ty:TypeId) (z:BM) (ht:P.underlying t=some (.slice e)) (hv:∀ w,(zeroValue e).run P w=.ok z w) (b o n c:Nat) (hn:0<n)
  (vs:List BM) (hvs:(Builtin.zeroCells z.cells n).toList=vs) (h1:∀ v ∈ vs,v.oneCell'=true)
  (hc:∀ j,j<vs.length->(w.cell? ⟨b,o+j,none⟩).isSome=true) (hf:∀ j,j<vs.length->w.frozen? ⟨b,o+j,none⟩=false):
  (Builtin.clear_ #[t] ty #[.slice (some ⟨b,o,none⟩) n c]).run P w=.ok (.tuple #[]) (w.setCells b o vs):=by
 have hst:=BO (P:=P) b o vs 0 w (by simpa using hc) (by simpa using hf) h1;simp only [Nat.add_zero] at hst;obtain ⟨m,rfl⟩:∃ m,n=m+1:=⟨n - 1,by omega⟩;have hvs2:Builtin.zeroCells z.cells (m+1)=vs.toArray:=by rw [<- hvs]
 simp [Builtin.clear_,run_underlying ht,hv,hvs2,hst]
end Go.Proofs.YtknioodagnjchaaGreatDoor
namespace Go.Proofs.YtknioodagnjchaaGreatDoor
open _root_.Array renaming getElem?_eq_getElem->Bt,length_toList->BG,size_append->BT,toList_append->BX
open Go.Proofs.Tryz renaming prog->Bv,underlying37->Cj,underlying3->Cq,underlying108->Cu,underlying22->Cx,ntmps205->CR,ntmps71->CS,func205->CV,ntmps72->CW,func71->CX,func72->CZ,ntmps220->Db,ntmps137->Dc,ntmps138->Dd,ntmps248->De,ntmps249->Df
open List renaming length_drop->Bw,length_take->Bx,length_append->BA,size_toArray->BD,take_append->BF,getElem?_take->BH,take_of_length_le->BK,getElem?_drop->BM,take_take->BO,append_assoc->BP,flatMap_append->BY,eq_nil_of_length_eq_zero->Cf,append_nil->Ci,take_zero->Cp,drop_eq_nil_of_le->CA,getD_eq_getElem?_getD->CH,getElem?_eq_getElem->CK,take_length->CL,drop_length->CM
open Go.Builtin renaming zeroCells->Bz,copy_->BQ,clear_->Cn,append_->Ct,firstCells->CF
open Nat renaming min_eq_left->BB,min_def->BE,le_refl->BI,zero_add->Ca,add_mul->Cm,min->Cz,mul_le_mul_right->CB,mul_comm->CT,sub_self->CU,mul_one->CY
open Go.IntKind renaming wrap_i64->BC
open Go.Addr renaming add_lit->BJ
open Go renaming maxLen->BL,grownCap->BR,size_zeroCells->BU,World->BV,rounds_succ->BW,step_append_room->Cd,grownCap_le_maxLen->Cg,Value->Ck,Calls->Cr,TypeId->Cw,run_callFunc_extern->CD,run_firstCells_some->CE,wp_loop_rounds->CG,grownCap_ge->CI,goInt->CO,growslice_fits->CP,heap_alloc_new->CQ,sizeOf->Dg
open Go.Act renaming eval->BN,put->BS
open Go.Lib renaming wpList_append_run->BZ,run_append_grow_zeros->Cs,run_overlaps_apart->Cy,run_append_nil_zeros->CJ,run_eql_slice_nil->CN
open Go.Extern.SlicesOverlaps renaming overlaps->Cb
open Go.Proofs renaming wpList_copy_runI->Cc,step_copy_runI->Cl
open Go.Value renaming oneCell'->Co,cells->CC,ownBlock->Da
open Go.World renaming ownsRow_made->Cv
open Go.Lib renaming hid->Z
open Go.RowKit
theorem fX {w:BV} {g:Nat} {cs:Array Ck} {e:Cw} (h:w.heap[g]?=some (.cells cs e (0,0))):w.shape? g=some (e,cs.size):=by unfold World.shape?;rw [h]
theorem ss (xs:List By) (i:Nat) (y:By) (base g c vb vc:Nat) (tA:Cw) (w:BV) (h:Own sC 1 9 base w (.slice (some ⟨g,0,none⟩) xs.length c) xs) (hi:i<xs.length) (hroom:xs.length+1<=c) (hv:w.heap[vb]?=some (.cells (sC y).toArray tA (0,0))) (hvb:vb≠g):
  Cr Bv 71 #[.slice (some ⟨g,0,none⟩) xs.length c,.int .i64 i,.slice (some ⟨vb,0,none⟩) 1 vc] w fun e w'=>
   e=.returned (.slice (some ⟨g,0,none⟩) (xs.length+1) c)/\w'=(w.drew.setCells g (i+1) ((xs.drop i).flatMap sC)).setCells g (i) (sC y):=by
 have hz:(Tryz.prog.info? 9).map (·.size)=some 1:=by kernel_rfl
 have hso:∀ w,(Dg 9).run Bv w=.ok 1 w:=fun _=>rfl
 have hu:=Cx;obtain ⟨cur,hg,hcm,hcs,htk⟩:∃ cur:Array Ck,w.heap[g]?=some (.cells cur 9 (0,0))/\c<=BL/\cur.size=c * 1/\cur.toList.take (xs.length * 1)=xs.flatMap sC:=by
  rcases h.2 with ⟨hv,_⟩ | ⟨g',cap,cur,hv,_,hg,_,hm,hc,ht⟩
  ·cases hv
  ·injection hv with e1 e2 e3
   injection e1 with e1
   injection e1 with e1
   subst e1 e3;exact ⟨cur,hg,hm,hc,ht⟩
 unfold BL at hcm;have hcell:∀ j,j<c * 1->(w.cell? ⟨g,j,none⟩).isSome=true:=fun j hj=>by rw [ae hg,Bt (by omega)];rfl
 have hread:∀ j v,(xs.flatMap sC)[j]?=some v->w.cell? ⟨g,j,none⟩=some v:=fun j v hj=>by
  rw [<- htk,BH] at hj
  split at hj
  ·rw [ae hg];simpa using hj
  ·cases hj
 have hov:∀ lb cb,(callFunc 125 #[.slice (some ⟨vb,0,none⟩) 1 vc,.slice (some ⟨g,i+1,none⟩) lb cb]).run Bv w=.ok (.value (.bool false)) w:=fun lb cb=>by
  rw [CD Tryz.func125 (by kernel_rfl) (by kernel_rfl) (by kernel_rfl) (e:=Cb #[22,22] #[4]) (by kernel_rfl),
   Cy w 22 4 9 hu 1 hso ⟨vb,0,none⟩ ⟨g,i+1,none⟩ 1 vc lb cb hvb tA 9 (sC y).toArray.size cur.size (fX hv) (fX hg) (by rw [hcs];omega) (ab hv _) (ab hv _)]
  rfl
 have hdl:((xs.drop i).flatMap sC).length=(xs.length - i) * 1:=by rw [aC sC 1 (gT).hl,Bw]
 have hcp1:∀ ty dc sc,(BQ #[22,22] ty #[.slice (some ⟨g,i+1,none⟩) (xs.length - i) dc,.slice (some ⟨g,i,none⟩) (xs.length+1 - i) sc]).run Bv w.drew=.ok (CO ((xs.length - i:Nat):Int)) (w.drew.setCells g (i+1) ((xs.drop i).flatMap sC)):=fun ty dc sc=>by
  have:=bU (P:=Bv) w.drew 22 22 ty 9 g (i+1) (xs.length - i) dc ⟨g,i,none⟩ (xs.length+1 - i) sc ((xs.drop i).flatMap sC) 1 hu hz
   (by rw [hdl];congr 1;simp only [BE];split <;> omega)
   (fun j v hj=>by rw [BJ];exact hread _ v (by rw [<- dJ (gT).hl,BM] at hj;first | exact hj | simpa using hj))
   (fun j hj=>hcell _ (by omega)) (fun j hj=>ab hg _)
   (fun v hv=>by
     obtain ⟨x,_,hx⟩:=List.mem_flatMap.1 hv;exact (gT).h1 x v hx)
  rw [show Cz (xs.length+1 - i) (xs.length - i)=xs.length - i by simp only [BE];split <;> omega] at this;exact this
 obtain ⟨W1,hW1⟩:∃ W1,W1=w.drew.setCells g (i+1) ((xs.drop i).flatMap sC):=⟨_,rfl⟩;have hs1:=bS ((xs.drop i).flatMap sC) (i+1) (w:=w.drew) hg (by omega);rw [<- hW1] at hs1;have hv1:W1.heap[vb]?=some (.cells (sC y).toArray tA (0,0)):=by rw [hW1];exact ((Ch.refl (fun k=>k=g) w).drew.trans (dx _ _ _)).keep hv hvb
 have hyl:(sC y).length=1:=(gT).hl y
 have hcp2:∀ (W:BV),W.heap=W1.heap->∀ ty dc,(BQ #[22,22] ty #[.slice (some ⟨g,i,none⟩) (xs.length+1 - i) dc,.slice (some ⟨vb,0,none⟩) 1 vc]).run Bv W=.ok (CO ((1:Nat):Int)) (W.setCells g (i) (sC y)):=fun W hW ty dc=>by
  have hgW:=hs1;have hvW:=hv1;rw [<- hW] at hgW hvW;have:=bU (P:=Bv) W 22 22 ty 9 g (i) (xs.length+1 - i) dc ⟨vb,0,none⟩ 1 vc (sC y) 1 hu hz
   (by rw [hyl];simp only [BE];split <;> omega)
   (fun j v hj=>by rw [BJ,ae hvW];simpa using hj)
   (fun j hj=>by rw [ae hgW,Bt (by simp only [BD,BA,Bx,Bw,BG,hdl];omega)];rfl)
   (fun j hj=>ab hgW _)
   (fun v hv=>(gT).h1 y v hv)
  rw [show Cz 1 (xs.length+1 - i)=1 by simp only [BE];split <;> omega] at this;exact this
 rw [<- hW1] at hcp1 ⊢;have hzi:(1:Int)≠0:=by decide
 have mixed:Tryz.prog.follows .mixedOrders=true:=by kernel_rfl
 have hz2:¬ ((i:Int)=(xs.length:Int)):=by omega
 have hw1:IntKind.i64.wrap ((i:Int)+1)=(i:Int)+1:=by rw [BC];omega
 have hw2:IntKind.i64.wrap ((xs.length:Int)+1)=(xs.length:Int)+1:=by rw [BC];omega
 have hb1:(0:Int)<=(i:Int)+1:=by omega
 have hin:i<=xs.length:=by omega
 have htn:((i:Int)+1).toNat=i+1:=by omega
 have htn2:((xs.length:Int)+1).toNat=xs.length+1:=by omega
 have hb2:¬ (c=i+1):=by omega
 have hb3:(i:Int)<=(xs.length:Int)+1:=by omega
 have hb4:¬ (c=i):=by omega
 clear hs1 hv1 hcell hread htk hcs hg hdl hz hso h hv;go_enter CX,CS;go_wp2_with (simp only [hov]);go_region_law_o (refine Cl rfl _ _ 22 22 rfl _ _ (by simp [BN,BS]) (by simp [BN,BS]) (hcp1 _ _ _) ?_);go_wp2_with (at_builtin;refine Cc _ rfl _ _ 22 22 rfl _ _ rfl rfl (hcp2 _ rfl _ _) ?_);go_ret
 first | exact ⟨rfl,rfl⟩ | exact ⟨rfl,by rw [hW1]⟩
theorem uD (xs:List By) (i:Nat) (y:By) (base g c vb vc:Nat) (tA:Cw) (w:BV) (h:Own sC 1 9 base w (.slice (some ⟨g,0,none⟩) xs.length c) xs) (hi:i<xs.length) (hnr:c<xs.length+1) (hbase:base<=w.heap.size) (hn:xs.length<=100000) (hv:w.heap[vb]?=some (.cells (sC y).toArray tA (0,0))):
  Cr Bv 71 #[.slice (some ⟨g,0,none⟩) xs.length c,.int .i64 i,.slice (some ⟨vb,0,none⟩) 1 vc] w fun e w'=>
   ∃ v',e=.returned v'/\Own sC 1 9 base w' v' (xs.insertIdx i y)/\w.grownBy w' (some g)/\(v'.ownBlock=some g\/v'.ownBlock=some w.heap.size):=by
 have mixed:Tryz.prog.follows .mixedOrders=true:=by kernel_rfl
 have hz:(Tryz.prog.info? 9).map (·.size)=some 1:=by kernel_rfl
 have hu:=Cx;have hui:=Cq;obtain ⟨_,⟨i0,z,hi0,hz0,hsz,hby,hzs⟩,_,hl,h1⟩:=gT;obtain ⟨cur,hg,hnc,htk⟩:∃ cur:Array Ck,w.heap[g]?=some (.cells cur 9 (0,0))/\xs.length<=c/\cur.toList.take (xs.length * 1)=xs.flatMap sC:=by
  rcases h.2 with ⟨hv,_⟩ | ⟨g',cap,cur,hv,_,hg,hnc,hm,hc,ht⟩
  ·cases hv
  ·injection hv with e1 e2 e3
   injection e1 with e1
   injection e1 with e1
   subst e1 e3;exact ⟨cur,hg,hnc,ht⟩
 have hgw:=aj hg;have hvw:=aj hv
 have hread:∀ j v,(xs.flatMap sC)[j]?=some v->w.cell? ⟨g,j,none⟩=some v:=fun j v hj=>by
  rw [<- htk,BH] at hj
  split at hj
  ·rw [ae hg];simpa using hj
  ·cases hj
 have htl:((xs.take i).flatMap sC).length=i * 1:=by rw [aC sC 1 hl,Bx,BB (by omega)]
 have hold:(CF i0.size i (.slice (some ⟨g,0,none⟩) i c)).run Bv w.drew=.ok ((xs.take i).flatMap sC).toArray w.drew:=by
  rw [hsz]
  exact CE w.drew 1 i ⟨g,0,none⟩ i c ((xs.take i).flatMap sC) (by rw [htl,CT]) (fun j v hj=>by
   rw [BJ,Ca];rw [<- cT hl,BH] at hj
   split at hj
   ·exact hread j v hj
   ·cases hj)
 have hik:i+(xs.length+1 - i)=xs.length+1:=by omega
 have hkk:(xs.length:Int)+1 - (i:Int)=((xs.length+1 - i:Nat):Int):=by omega
 have hrz:∀ ty,(Ct #[22,3] ty #[.slice (some ⟨g,0,none⟩) i c,.int .i64 ((xs.length:Int)+1 - (i:Int))]).run Bv w=
   .ok (.slice (some ⟨w.heap.size,0,none⟩) (xs.length+1) (BR w (xs.length+1) c 9)) (w.drew.alloc (.cells (((xs.take i).flatMap sC).toArray ++ Bz z.cells (xs.length+1 - i) ++ Bz z.cells (BR w (xs.length+1) c 9 - (xs.length+1))) 9)):=fun ty=>by
  have h:=Cs w 22 3 ty 9 i0 _ .i64 .i64 hu hui hi0 hz0 (some ⟨g,0,none⟩) i c ((xs.take i).flatMap sC) hold (xs.length+1 - i) (by omega) (by omega) (by omega) (by omega) (by rw [hby];omega) (by rw [hby,hik];exact CP hnr (by omega));rw [hik] at h;rw [hkk];exact h
 have hGn:xs.length+1<=BR w (xs.length+1) c 9:=CI w _ _ _;have hGm:BR w (xs.length+1) c 9<=BL:=Cg w (xs.length+1) c 9 (by unfold BL;omega);generalize BR w (xs.length+1) c 9=G at *;obtain ⟨ROW,hROW⟩:∃ ROW:Array Ck,ROW=((xs.take i).flatMap sC).toArray ++ Bz z.cells (xs.length+1 - i) ++ Bz z.cells (G - (xs.length+1)):=⟨_,rfl⟩;rw [<- hROW] at hrz;have hRs:ROW.size=G * 1:=by rw [hROW,BT,BT,BD,htl,BU,BU,hzs,<- Cm,<- Cm];congr 1;omega
 have hRt:ROW.toList.take (i * 1)=(xs.take i).flatMap sC:=by rw [hROW,BX,BX,BP,BF,htl,BK (by simp only [htl];omega),CU];simp
 obtain ⟨W1,hW1⟩:∃ W1,W1=w.drew.alloc (.cells ROW 9):=⟨_,rfl⟩;have hh1:W1.heap[w.heap.size]?=some (.cells ROW 9 (0,0)):=by rw [hW1];exact CQ w.drew _
 have hg1:W1.heap[g]?=some (.cells cur 9 (0,0)):=by rw [hW1];exact am (w:=w.drew) hg _
 have hv1:W1.heap[vb]?=some (.cells (sC y).toArray tA (0,0)):=by rw [hW1];exact am (w:=w.drew) hv _
 rw [<- hW1] at hrz;have hyl:(sC y).length=1:=hl y;have hdl:((xs.drop i).flatMap sC).length=(xs.length - i) * 1:=by rw [aC sC 1 hl,Bw]
 have hGz:(xs.length+1) * 1<=G * 1:=CB _ hGn
 have hcpA:∀ (W:BV),W.heap=W1.heap->∀ ty dc,(BQ #[22,22] ty #[.slice (some ⟨w.heap.size,i,none⟩) (xs.length+1 - i) dc,.slice (some ⟨vb,0,none⟩) 1 vc]).run Bv W=.ok (CO ((1:Nat):Int)) (W.setCells w.heap.size (i) (sC y)):=fun W hW ty dc=>by
  have hgW:=hh1;have hvW:=hv1;rw [<- hW] at hgW hvW;have:=bU (P:=Bv) W 22 22 ty 9 w.heap.size (i) (xs.length+1 - i) dc ⟨vb,0,none⟩ 1 vc (sC y) 1 hu hz
   (by rw [hyl];simp only [BE];split <;> omega)
   (fun j v hj=>by rw [BJ,ae hvW];simpa using hj)
   (fun j hj=>by rw [ae hgW,Bt (by omega)];rfl)
   (fun j hj=>ab hgW _)
   (fun v hv=>h1 y v hv)
  rw [show Cz 1 (xs.length+1 - i)=1 by simp only [BE];split <;> omega] at this;exact this
 have hh2:=bS (sC y) (i) hh1 (by omega);have hne:g≠w.heap.size:=by omega
 have hg2:(W1.setCells w.heap.size (i) (sC y)).heap[g]?=some (.cells cur 9 (0,0)):=(dx (sC y) (i) W1).keep hg1 hne
 have hcpB:∀ (W:BV),W.heap=(W1.setCells w.heap.size (i) (sC y)).heap->∀ ty dc sc,(BQ #[22,22] ty #[.slice (some ⟨w.heap.size,i+1,none⟩) (xs.length - i) dc,.slice (some ⟨g,i,none⟩) (xs.length - i) sc]).run Bv W=.ok (CO ((xs.length - i:Nat):Int)) (W.setCells w.heap.size (i+1) ((xs.drop i).flatMap sC)):=fun W hW ty dc sc=>by
  have hgW:=hh2;have hvW:=hg2;rw [<- hW] at hgW hvW;have:=bU (P:=Bv) W 22 22 ty 9 w.heap.size (i+1) (xs.length - i) dc ⟨g,i,none⟩ (xs.length - i) sc ((xs.drop i).flatMap sC) 1 hu hz
   (by rw [hdl];congr 1;simp only [BE];split <;> omega)
   (fun j v hj=>by
     rw [BJ,ae hvW];have:=hread (i * 1+j) v (by rw [<- dJ hl,BM] at hj;exact hj);rw [ae hg] at this
     first | exact this | simpa using this)
   (fun j hj=>by rw [ae hgW,Bt (by simp only [BD,BA,Bx,Bw,BG,hyl];omega)];rfl)
   (fun j hj=>ab hgW _)
   (fun v hv=>by
     obtain ⟨x,_,hx⟩:=List.mem_flatMap.1 hv;exact h1 x v hx)
  rw [show Cz (xs.length - i) (xs.length - i)=xs.length - i by simp only [BE];split <;> omega] at this;exact this
 have HOWN:=Z (Own.zR (f:=sC) (size:=1) (e:=9) (base:=base) (w:=w.drew) hl (by omega:i<=xs.length) y hbase hGn hGm hRs hRt);have HGR:=Z (show w.grownBy W1 (some g) by rw [hW1];exact jf (bW (cG w _)) _);have HW1:=Z hW1;clear hW1;have hz2:¬ ((i:Int)=(xs.length:Int)):=by omega
 have hz3:(c:Int)<(xs.length:Int)+1:=by omega
 have hw1:IntKind.i64.wrap ((i:Int)+1)=(i:Int)+1:=by rw [BC];omega
 have hw2:IntKind.i64.wrap ((xs.length:Int)+1)=(xs.length:Int)+1:=by rw [BC];omega
 have hb1:(0:Int)<=(i:Int)+1:=by omega
 have hin:i<=xs.length:=by omega
 have htn:((i:Int)+1).toNat=i+1:=by omega
 have hb3:(i:Int)<=(xs.length:Int)+1:=by omega
 unfold BL at hGm;have hGi:¬ (G=i):=by omega
 have hGim:¬ (G=i+1):=by omega
 have hci:¬ (c=i):=by omega
 clear hh1 hh2 hg1 hg2 hv1 hread htk hdl hz h hv hold hROW hRs hRt hkk hik htl hg hzs hsz hby hi0 hz0;go_enter CX,CS;go_wp2_with (first
  | (at_builtin;refine BZ _ rfl _ _ _ _ rfl _ _ rfl rfl _ _ (hrz _) ?_)
  | (at_builtin;refine Cc _ rfl _ _ 22 22 rfl _ _ rfl rfl (hcpA _ rfl _ _) ?_))
 go_region_law_o (refine Cl rfl _ _ 22 22 rfl _ _ (by simp [BN,BS]) (by simp [BN,BS]) (hcpB ((W1.setCells w.heap.size (i) (sC y)).drew) rfl 3 (G - (i+1)) (c - i)) ?_);go_wp2;go_ret;have hW1:=HW1.out;subst hW1;refine ⟨_,rfl,?_,?_,.inr rfl⟩
 ·rw [dy]
  first
  | exact Own.drew HOWN.out
  | (have h9:=HOWN.out;simp only [CY] at h9;exact Own.drew h9)
 ·rw [dy];exact bW (aB (aB HGR.out (.inr (BI _)) _) (.inr (BI _)) _)
theorem ww (xs:List By) (y:By) (base vb vc:Nat) (v:Ck) (tA:Cw) (w:BV) (h:Own sC 1 9 base w v xs) (hbase:base<=w.heap.size) (hn:xs.length<=100000) (hv:w.heap[vb]?=some (.cells (sC y).toArray tA (0,0))):
  Cr Bv 71 #[v,.int .i64 xs.length,.slice (some ⟨vb,0,none⟩) 1 vc] w fun e w'=>
   ∃ v',e=.returned v'/\Own sC 1 9 base w' v' (xs ++ [y])/\w.grownBy w' v.ownBlock/\(v'.ownBlock=v.ownBlock\/v'.ownBlock=some w.heap.size):=by
 have HY:=Z (show Sl sC 1 w (.slice (some ⟨vb,0,none⟩) 1 vc) [y] from Sl.Ad hv (gT).hl (by simp) rfl);have H:=Z h;obtain ⟨A,c,rfl⟩:=Sl.zM (h.sl (gT).hl);clear h hv;go_enter CX,CS;rcases A with _ | ⟨g,o,sp⟩
 ·have h0:xs.length=0/\c=0:=by
   rcases H.out.2 with ⟨hv,h0⟩ | ⟨g',cap,cur,hv,_⟩
   ·injection hv with e1 e2 e3;exact ⟨e2,e3⟩
   ·cases hv
  obtain ⟨h0,rfl⟩:=h0;have HX:=H;rw [h0] at HX ⊢;have hxs:xs=[]:=Cf h0;go_wp2_with (at_builtin;refine Z (al rfl rfl gT rfl rfl HX.out HY.out (by unfold BL;simp;omega) (by simp;omega) hbase ?_) |>.out)
  all_goals
   intro v' w' h1 h2 h3;have H1:=Z h1;have H2:=Z h2;have H3:=Z h3;clear h1 h2 h3;go_wp2_with fail;go_ret;exact ⟨v',rfl,by first | exact H1.out | (rw [hxs];exact H1.out),H2.out,H3.out⟩
 ·obtain ⟨rfl,rfl⟩:o=0/\sp=none:=by
   rcases H.out.2 with ⟨hv,h0⟩ | ⟨g',cap,cur,hv,_⟩
   ·cases hv
   ·injection hv with e1 e2 e3
    injection e1 with e1
    injection e1 with e1 e2 e3
    exact ⟨e2,e3⟩
  go_wp2_with (at_builtin;refine Z (al rfl rfl gT rfl rfl H.out HY.out (by unfold BL;simp;omega) (by simp;omega) hbase ?_) |>.out)
  all_goals
   intro v' w' h1 h2 h3;have H1:=Z h1;have H2:=Z h2;have H3:=Z h3;clear h1 h2 h3;go_wp2_with fail;go_ret;exact ⟨v',rfl,by first | exact H1.out | (rw [hxs];exact H1.out),H2.out,H3.out⟩
theorem qX (xs:List By) (i:Nat) (y:By) (base vb vc:Nat) (v:Ck) (tA:Cw) (w:BV) (h:Own sC 1 9 base w v xs) (hi:i<=xs.length) (hbase:base<=w.heap.size) (hn:xs.length<=100000) (hv:w.heap[vb]?=some (.cells (sC y).toArray tA (0,0))) (hne:v.ownBlock≠some vb):
  Cr Bv 71 #[v,.int .i64 i,.slice (some ⟨vb,0,none⟩) 1 vc] w fun e w'=>
   ∃ v',e=.returned v'/\Own sC 1 9 base w' v' (xs.insertIdx i y)/\w.grownBy w' v.ownBlock/\(v'.ownBlock=v.ownBlock\/v'.ownBlock=some w.heap.size):=by
 by_cases he:i=xs.length
 ·subst he;rw [iu xs _ y (BI _),CL,CM];exact ww xs y base vb vc v tA w h hbase hn hv
 ·have h0:=h;rcases h.2 with ⟨_,h0⟩ | ⟨g,c,cur,rfl,_,hg,hnc,hm,hc,ht⟩
  ·omega
  ·by_cases hr:xs.length+1<=c
   ·refine (ss xs i y base g c vb vc tA w h0 (by omega) hr hv (fun e=>hne (by rw [e];rfl))).mono ?_;rintro e w' ⟨rfl,rfl⟩;exact ⟨_,rfl,(by have:=(Own.drew h0).insert (gT).hl hi hr y;first | exact this | simpa using this),aB (aB (bW (cG w _)) (.inl rfl) _) (.inl rfl) _,.inl rfl⟩
   ·exact uD xs i y base g c vb vc tA w h0 (by omega) (by omega) hbase hn hv
theorem st (xs:List Int) (i:Nat) (y:Int) (base g c vb vc:Nat) (tA:Cw) (w:BV) (h:Own iC 1 3 base w (.slice (some ⟨g,0,none⟩) xs.length c) xs) (hi:i<xs.length) (hroom:xs.length+1<=c) (hv:w.heap[vb]?=some (.cells (iC y).toArray tA (0,0))) (hvb:vb≠g):
  Cr Bv 205 #[.slice (some ⟨g,0,none⟩) xs.length c,.int .i64 i,.slice (some ⟨vb,0,none⟩) 1 vc] w fun e w'=>
   e=.returned (.slice (some ⟨g,0,none⟩) (xs.length+1) c)/\w'=(w.drew.setCells g (i+1) ((xs.drop i).flatMap iC)).setCells g (i) (iC y):=by
 have hz:(Tryz.prog.info? 3).map (·.size)=some 1:=by kernel_rfl
 have hso:∀ w,(Dg 3).run Bv w=.ok 1 w:=fun _=>rfl
 have hu:=Cj;obtain ⟨cur,hg,hcm,hcs,htk⟩:∃ cur:Array Ck,w.heap[g]?=some (.cells cur 3 (0,0))/\c<=BL/\cur.size=c * 1/\cur.toList.take (xs.length * 1)=xs.flatMap iC:=by
  rcases h.2 with ⟨hv,_⟩ | ⟨g',cap,cur,hv,_,hg,_,hm,hc,ht⟩
  ·cases hv
  ·injection hv with e1 e2 e3
   injection e1 with e1
   injection e1 with e1
   subst e1 e3;exact ⟨cur,hg,hm,hc,ht⟩
 unfold BL at hcm;have hcell:∀ j,j<c * 1->(w.cell? ⟨g,j,none⟩).isSome=true:=fun j hj=>by rw [ae hg,Bt (by omega)];rfl
 have hread:∀ j v,(xs.flatMap iC)[j]?=some v->w.cell? ⟨g,j,none⟩=some v:=fun j v hj=>by
  rw [<- htk,BH] at hj
  split at hj
  ·rw [ae hg];simpa using hj
  ·cases hj
 have hov:∀ lb cb,(callFunc 222 #[.slice (some ⟨vb,0,none⟩) 1 vc,.slice (some ⟨g,i+1,none⟩) lb cb]).run Bv w=.ok (.value (.bool false)) w:=fun lb cb=>by
  rw [CD Tryz.func222 (by kernel_rfl) (by kernel_rfl) (by kernel_rfl) (e:=Cb #[37,37] #[4]) (by kernel_rfl),
   Cy w 37 4 3 hu 1 hso ⟨vb,0,none⟩ ⟨g,i+1,none⟩ 1 vc lb cb hvb tA 3 (iC y).toArray.size cur.size (fX hv) (fX hg) (by rw [hcs];omega) (ab hv _) (ab hv _)]
  rfl
 have hdl:((xs.drop i).flatMap iC).length=(xs.length - i) * 1:=by rw [aC iC 1 (bI).hl,Bw]
 have hcp1:∀ ty dc sc,(BQ #[37,37] ty #[.slice (some ⟨g,i+1,none⟩) (xs.length - i) dc,.slice (some ⟨g,i,none⟩) (xs.length+1 - i) sc]).run Bv w.drew=.ok (CO ((xs.length - i:Nat):Int)) (w.drew.setCells g (i+1) ((xs.drop i).flatMap iC)):=fun ty dc sc=>by
  have:=bU (P:=Bv) w.drew 37 37 ty 3 g (i+1) (xs.length - i) dc ⟨g,i,none⟩ (xs.length+1 - i) sc ((xs.drop i).flatMap iC) 1 hu hz
   (by rw [hdl];congr 1;simp only [BE];split <;> omega)
   (fun j v hj=>by rw [BJ];exact hread _ v (by rw [<- dJ (bI).hl,BM] at hj;first | exact hj | simpa using hj))
   (fun j hj=>hcell _ (by omega)) (fun j hj=>ab hg _)
   (fun v hv=>by
     obtain ⟨x,_,hx⟩:=List.mem_flatMap.1 hv;exact (bI).h1 x v hx)
  rw [show Cz (xs.length+1 - i) (xs.length - i)=xs.length - i by simp only [BE];split <;> omega] at this;exact this
 obtain ⟨W1,hW1⟩:∃ W1,W1=w.drew.setCells g (i+1) ((xs.drop i).flatMap iC):=⟨_,rfl⟩;have hs1:=bS ((xs.drop i).flatMap iC) (i+1) (w:=w.drew) hg (by omega);rw [<- hW1] at hs1;have hv1:W1.heap[vb]?=some (.cells (iC y).toArray tA (0,0)):=by rw [hW1];exact ((Ch.refl (fun k=>k=g) w).drew.trans (dx _ _ _)).keep hv hvb
 have hyl:(iC y).length=1:=(bI).hl y
 have hcp2:∀ (W:BV),W.heap=W1.heap->∀ ty dc,(BQ #[37,37] ty #[.slice (some ⟨g,i,none⟩) (xs.length+1 - i) dc,.slice (some ⟨vb,0,none⟩) 1 vc]).run Bv W=.ok (CO ((1:Nat):Int)) (W.setCells g (i) (iC y)):=fun W hW ty dc=>by
  have hgW:=hs1;have hvW:=hv1;rw [<- hW] at hgW hvW;have:=bU (P:=Bv) W 37 37 ty 3 g (i) (xs.length+1 - i) dc ⟨vb,0,none⟩ 1 vc (iC y) 1 hu hz
   (by rw [hyl];simp only [BE];split <;> omega)
   (fun j v hj=>by rw [BJ,ae hvW];simpa using hj)
   (fun j hj=>by rw [ae hgW,Bt (by simp only [BD,BA,Bx,Bw,BG,hdl];omega)];rfl)
   (fun j hj=>ab hgW _)
   (fun v hv=>(bI).h1 y v hv)
  rw [show Cz 1 (xs.length+1 - i)=1 by simp only [BE];split <;> omega] at this;exact this
 rw [<- hW1] at hcp1 ⊢;have hzi:(1:Int)≠0:=by decide
 have mixed:Tryz.prog.follows .mixedOrders=true:=by kernel_rfl
 have hz2:¬ ((i:Int)=(xs.length:Int)):=by omega
 have hw1:IntKind.i64.wrap ((i:Int)+1)=(i:Int)+1:=by rw [BC];omega
 have hw2:IntKind.i64.wrap ((xs.length:Int)+1)=(xs.length:Int)+1:=by rw [BC];omega
 have hb1:(0:Int)<=(i:Int)+1:=by omega
 have hin:i<=xs.length:=by omega
 have htn:((i:Int)+1).toNat=i+1:=by omega
 have htn2:((xs.length:Int)+1).toNat=xs.length+1:=by omega
 have hb2:¬ (c=i+1):=by omega
 have hb3:(i:Int)<=(xs.length:Int)+1:=by omega
 have hb4:¬ (c=i):=by omega
 clear hs1 hv1 hcell hread htk hcs hg hdl hz hso h hv;go_enter CV,CR;go_wp2_with (simp only [hov]);go_region_law_o (refine Cl rfl _ _ 37 37 rfl _ _ (by simp [BN,BS]) (by simp [BN,BS]) (hcp1 _ _ _) ?_);go_wp2_with (at_builtin;refine Cc _ rfl _ _ 37 37 rfl _ _ rfl rfl (hcp2 _ rfl _ _) ?_);go_ret
 first | exact ⟨rfl,rfl⟩ | exact ⟨rfl,by rw [hW1]⟩
theorem uE (xs:List Int) (i:Nat) (y:Int) (base g c vb vc:Nat) (tA:Cw) (w:BV) (h:Own iC 1 3 base w (.slice (some ⟨g,0,none⟩) xs.length c) xs) (hi:i<xs.length) (hnr:c<xs.length+1) (hbase:base<=w.heap.size) (hn:xs.length<=100000) (hv:w.heap[vb]?=some (.cells (iC y).toArray tA (0,0))):
  Cr Bv 205 #[.slice (some ⟨g,0,none⟩) xs.length c,.int .i64 i,.slice (some ⟨vb,0,none⟩) 1 vc] w fun e w'=>
   ∃ v',e=.returned v'/\Own iC 1 3 base w' v' (xs.insertIdx i y)/\w.grownBy w' (some g)/\(v'.ownBlock=some g\/v'.ownBlock=some w.heap.size):=by
 have mixed:Tryz.prog.follows .mixedOrders=true:=by kernel_rfl
 have hz:(Tryz.prog.info? 3).map (·.size)=some 1:=by kernel_rfl
 have hu:=Cj;have hui:=Cq;obtain ⟨_,⟨i0,z,hi0,hz0,hsz,hby,hzs⟩,_,hl,h1⟩:=bI;obtain ⟨cur,hg,hnc,htk⟩:∃ cur:Array Ck,w.heap[g]?=some (.cells cur 3 (0,0))/\xs.length<=c/\cur.toList.take (xs.length * 1)=xs.flatMap iC:=by
  rcases h.2 with ⟨hv,_⟩ | ⟨g',cap,cur,hv,_,hg,hnc,hm,hc,ht⟩
  ·cases hv
  ·injection hv with e1 e2 e3
   injection e1 with e1
   injection e1 with e1
   subst e1 e3;exact ⟨cur,hg,hnc,ht⟩
 have hgw:=aj hg;have hvw:=aj hv
 have hread:∀ j v,(xs.flatMap iC)[j]?=some v->w.cell? ⟨g,j,none⟩=some v:=fun j v hj=>by
  rw [<- htk,BH] at hj
  split at hj
  ·rw [ae hg];simpa using hj
  ·cases hj
 have htl:((xs.take i).flatMap iC).length=i * 1:=by rw [aC iC 1 hl,Bx,BB (by omega)]
 have hold:(CF i0.size i (.slice (some ⟨g,0,none⟩) i c)).run Bv w.drew=.ok ((xs.take i).flatMap iC).toArray w.drew:=by
  rw [hsz]
  exact CE w.drew 1 i ⟨g,0,none⟩ i c ((xs.take i).flatMap iC) (by rw [htl,CT]) (fun j v hj=>by
   rw [BJ,Ca];rw [<- cT hl,BH] at hj
   split at hj
   ·exact hread j v hj
   ·cases hj)
 have hik:i+(xs.length+1 - i)=xs.length+1:=by omega
 have hkk:(xs.length:Int)+1 - (i:Int)=((xs.length+1 - i:Nat):Int):=by omega
 have hrz:∀ ty,(Ct #[37,3] ty #[.slice (some ⟨g,0,none⟩) i c,.int .i64 ((xs.length:Int)+1 - (i:Int))]).run Bv w=
   .ok (.slice (some ⟨w.heap.size,0,none⟩) (xs.length+1) (BR w (xs.length+1) c 3)) (w.drew.alloc (.cells (((xs.take i).flatMap iC).toArray ++ Bz z.cells (xs.length+1 - i) ++ Bz z.cells (BR w (xs.length+1) c 3 - (xs.length+1))) 3)):=fun ty=>by
  have h:=Cs w 37 3 ty 3 i0 _ .i64 .i64 hu hui hi0 hz0 (some ⟨g,0,none⟩) i c ((xs.take i).flatMap iC) hold (xs.length+1 - i) (by omega) (by omega) (by omega) (by omega) (by rw [hby];omega) (by rw [hby,hik];exact CP hnr (by omega));rw [hik] at h;rw [hkk];exact h
 have hGn:xs.length+1<=BR w (xs.length+1) c 3:=CI w _ _ _;have hGm:BR w (xs.length+1) c 3<=BL:=Cg w (xs.length+1) c 3 (by unfold BL;omega);generalize BR w (xs.length+1) c 3=G at *;obtain ⟨ROW,hROW⟩:∃ ROW:Array Ck,ROW=((xs.take i).flatMap iC).toArray ++ Bz z.cells (xs.length+1 - i) ++ Bz z.cells (G - (xs.length+1)):=⟨_,rfl⟩;rw [<- hROW] at hrz;have hRs:ROW.size=G * 1:=by rw [hROW,BT,BT,BD,htl,BU,BU,hzs,<- Cm,<- Cm];congr 1;omega
 have hRt:ROW.toList.take (i * 1)=(xs.take i).flatMap iC:=by rw [hROW,BX,BX,BP,BF,htl,BK (by simp only [htl];omega),CU];simp
 obtain ⟨W1,hW1⟩:∃ W1,W1=w.drew.alloc (.cells ROW 3):=⟨_,rfl⟩;have hh1:W1.heap[w.heap.size]?=some (.cells ROW 3 (0,0)):=by rw [hW1];exact CQ w.drew _
 have hg1:W1.heap[g]?=some (.cells cur 3 (0,0)):=by rw [hW1];exact am (w:=w.drew) hg _
 have hv1:W1.heap[vb]?=some (.cells (iC y).toArray tA (0,0)):=by rw [hW1];exact am (w:=w.drew) hv _
 rw [<- hW1] at hrz;have hyl:(iC y).length=1:=hl y;have hdl:((xs.drop i).flatMap iC).length=(xs.length - i) * 1:=by rw [aC iC 1 hl,Bw]
 have hGz:(xs.length+1) * 1<=G * 1:=CB _ hGn
 have hcpA:∀ (W:BV),W.heap=W1.heap->∀ ty dc,(BQ #[37,37] ty #[.slice (some ⟨w.heap.size,i,none⟩) (xs.length+1 - i) dc,.slice (some ⟨vb,0,none⟩) 1 vc]).run Bv W=.ok (CO ((1:Nat):Int)) (W.setCells w.heap.size (i) (iC y)):=fun W hW ty dc=>by
  have hgW:=hh1;have hvW:=hv1;rw [<- hW] at hgW hvW;have:=bU (P:=Bv) W 37 37 ty 3 w.heap.size (i) (xs.length+1 - i) dc ⟨vb,0,none⟩ 1 vc (iC y) 1 hu hz
   (by rw [hyl];simp only [BE];split <;> omega)
   (fun j v hj=>by rw [BJ,ae hvW];simpa using hj)
   (fun j hj=>by rw [ae hgW,Bt (by omega)];rfl)
   (fun j hj=>ab hgW _)
   (fun v hv=>h1 y v hv)
  rw [show Cz 1 (xs.length+1 - i)=1 by simp only [BE];split <;> omega] at this;exact this
 have hh2:=bS (iC y) (i) hh1 (by omega);have hne:g≠w.heap.size:=by omega
 have hg2:(W1.setCells w.heap.size (i) (iC y)).heap[g]?=some (.cells cur 3 (0,0)):=(dx (iC y) (i) W1).keep hg1 hne
 have hcpB:∀ (W:BV),W.heap=(W1.setCells w.heap.size (i) (iC y)).heap->∀ ty dc sc,(BQ #[37,37] ty #[.slice (some ⟨w.heap.size,i+1,none⟩) (xs.length - i) dc,.slice (some ⟨g,i,none⟩) (xs.length - i) sc]).run Bv W=.ok (CO ((xs.length - i:Nat):Int)) (W.setCells w.heap.size (i+1) ((xs.drop i).flatMap iC)):=fun W hW ty dc sc=>by
  have hgW:=hh2;have hvW:=hg2;rw [<- hW] at hgW hvW;have:=bU (P:=Bv) W 37 37 ty 3 w.heap.size (i+1) (xs.length - i) dc ⟨g,i,none⟩ (xs.length - i) sc ((xs.drop i).flatMap iC) 1 hu hz
   (by rw [hdl];congr 1;simp only [BE];split <;> omega)
   (fun j v hj=>by
     rw [BJ,ae hvW];have:=hread (i * 1+j) v (by rw [<- dJ hl,BM] at hj;exact hj);rw [ae hg] at this
     first | exact this | simpa using this)
   (fun j hj=>by rw [ae hgW,Bt (by simp only [BD,BA,Bx,Bw,BG,hyl];omega)];rfl)
   (fun j hj=>ab hgW _)
   (fun v hv=>by
     obtain ⟨x,_,hx⟩:=List.mem_flatMap.1 hv;exact h1 x v hx)
  rw [show Cz (xs.length - i) (xs.length - i)=xs.length - i by simp only [BE];split <;> omega] at this;exact this
 have HOWN:=Z (Own.zR (f:=iC) (size:=1) (e:=3) (base:=base) (w:=w.drew) hl (by omega:i<=xs.length) y hbase hGn hGm hRs hRt);have HGR:=Z (show w.grownBy W1 (some g) by rw [hW1];exact jf (bW (cG w _)) _);have HW1:=Z hW1;clear hW1;have hz2:¬ ((i:Int)=(xs.length:Int)):=by omega
 have hz3:(c:Int)<(xs.length:Int)+1:=by omega
 have hw1:IntKind.i64.wrap ((i:Int)+1)=(i:Int)+1:=by rw [BC];omega
 have hw2:IntKind.i64.wrap ((xs.length:Int)+1)=(xs.length:Int)+1:=by rw [BC];omega
 have hb1:(0:Int)<=(i:Int)+1:=by omega
 have hin:i<=xs.length:=by omega
 have htn:((i:Int)+1).toNat=i+1:=by omega
 have hb3:(i:Int)<=(xs.length:Int)+1:=by omega
 unfold BL at hGm;have hGi:¬ (G=i):=by omega
 have hGim:¬ (G=i+1):=by omega
 have hci:¬ (c=i):=by omega
 clear hh1 hh2 hg1 hg2 hv1 hread htk hdl hz h hv hold hROW hRs hRt hkk hik htl hg hzs hsz hby hi0 hz0;go_enter CV,CR;go_wp2_with (first
  | (at_builtin;refine BZ _ rfl _ _ _ _ rfl _ _ rfl rfl _ _ (hrz _) ?_)
  | (at_builtin;refine Cc _ rfl _ _ 37 37 rfl _ _ rfl rfl (hcpA _ rfl _ _) ?_))
 go_region_law_o (refine Cl rfl _ _ 37 37 rfl _ _ (by simp [BN,BS]) (by simp [BN,BS]) (hcpB ((W1.setCells w.heap.size (i) (iC y)).drew) rfl 3 (G - (i+1)) (c - i)) ?_);go_wp2;go_ret;have hW1:=HW1.out;subst hW1;refine ⟨_,rfl,?_,?_,.inr rfl⟩
 ·rw [dy]
  first
  | exact Own.drew HOWN.out
  | (have h9:=HOWN.out;simp only [CY] at h9;exact Own.drew h9)
 ·rw [dy];exact bW (aB (aB HGR.out (.inr (BI _)) _) (.inr (BI _)) _)
theorem wy (xs:List Int) (y:Int) (base vb vc:Nat) (v:Ck) (tA:Cw) (w:BV) (h:Own iC 1 3 base w v xs) (hbase:base<=w.heap.size) (hn:xs.length<=100000) (hv:w.heap[vb]?=some (.cells (iC y).toArray tA (0,0))):
  Cr Bv 205 #[v,.int .i64 xs.length,.slice (some ⟨vb,0,none⟩) 1 vc] w fun e w'=>
   ∃ v',e=.returned v'/\Own iC 1 3 base w' v' (xs ++ [y])/\w.grownBy w' v.ownBlock/\(v'.ownBlock=v.ownBlock\/v'.ownBlock=some w.heap.size):=by
 have HY:=Z (show Sl iC 1 w (.slice (some ⟨vb,0,none⟩) 1 vc) [y] from Sl.Ad hv (bI).hl (by simp) rfl);have H:=Z h;obtain ⟨A,c,rfl⟩:=Sl.zM (h.sl (bI).hl);clear h hv;go_enter CV,CR;rcases A with _ | ⟨g,o,sp⟩
 ·have h0:xs.length=0/\c=0:=by
   rcases H.out.2 with ⟨hv,h0⟩ | ⟨g',cap,cur,hv,_⟩
   ·injection hv with e1 e2 e3;exact ⟨e2,e3⟩
   ·cases hv
  obtain ⟨h0,rfl⟩:=h0;have HX:=H;rw [h0] at HX ⊢;have hxs:xs=[]:=Cf h0;go_wp2_with (at_builtin;refine Z (al rfl rfl bI rfl rfl HX.out HY.out (by unfold BL;simp;omega) (by simp;omega) hbase ?_) |>.out)
  all_goals
   intro v' w' h1 h2 h3;have H1:=Z h1;have H2:=Z h2;have H3:=Z h3;clear h1 h2 h3;go_wp2_with fail;go_ret;exact ⟨v',rfl,by first | exact H1.out | (rw [hxs];exact H1.out),H2.out,H3.out⟩
 ·obtain ⟨rfl,rfl⟩:o=0/\sp=none:=by
   rcases H.out.2 with ⟨hv,h0⟩ | ⟨g',cap,cur,hv,_⟩
   ·cases hv
   ·injection hv with e1 e2 e3
    injection e1 with e1
    injection e1 with e1 e2 e3
    exact ⟨e2,e3⟩
  go_wp2_with (at_builtin;refine Z (al rfl rfl bI rfl rfl H.out HY.out (by unfold BL;simp;omega) (by simp;omega) hbase ?_) |>.out)
  all_goals
   intro v' w' h1 h2 h3;have H1:=Z h1;have H2:=Z h2;have H3:=Z h3;clear h1 h2 h3;go_wp2_with fail;go_ret;exact ⟨v',rfl,by first | exact H1.out | (rw [hxs];exact H1.out),H2.out,H3.out⟩
theorem wA (xs:List Int) (i:Nat) (y:Int) (base vb vc:Nat) (v:Ck) (tA:Cw) (w:BV) (h:Own iC 1 3 base w v xs) (hi:i<=xs.length) (hbase:base<=w.heap.size) (hn:xs.length<=100000) (hv:w.heap[vb]?=some (.cells (iC y).toArray tA (0,0))) (hne:v.ownBlock≠some vb):
  Cr Bv 205 #[v,.int .i64 i,.slice (some ⟨vb,0,none⟩) 1 vc] w fun e w'=>
   ∃ v',e=.returned v'/\Own iC 1 3 base w' v' (xs.insertIdx i y)/\w.grownBy w' v.ownBlock/\(v'.ownBlock=v.ownBlock\/v'.ownBlock=some w.heap.size):=by
 by_cases he:i=xs.length
 ·subst he;rw [iu xs _ y (BI _),CL,CM];exact wy xs y base vb vc v tA w h hbase hn hv
 ·have h0:=h;rcases h.2 with ⟨_,h0⟩ | ⟨g,c,cur,rfl,_,hg,hnc,hm,hc,ht⟩
  ·omega
  ·by_cases hr:xs.length+1<=c
   ·refine (st xs i y base g c vb vc tA w h0 (by omega) hr hv (fun e=>hne (by rw [e];rfl))).mono ?_;rintro e w' ⟨rfl,rfl⟩;exact ⟨_,rfl,(by have:=(Own.drew h0).insert (bI).hl hi hr y;first | exact this | simpa using this),aB (aB (bW (cG w _)) (.inl rfl) _) (.inl rfl) _,.inl rfl⟩
   ·exact uE xs i y base g c vb vc tA w h0 (by omega) (by omega) hbase hn hv
theorem su (xs:List Ce) (i:Nat) (y:Ce) (base g c vb vc:Nat) (tA:Cw) (w:BV) (h:Own cC 3 119 base w (.slice (some ⟨g,0,none⟩) xs.length c) xs) (hi:i<xs.length) (hroom:xs.length+1<=c) (hv:w.heap[vb]?=some (.cells (cC y).toArray tA (0,0))) (hvb:vb≠g):
  Cr Bv 72 #[.slice (some ⟨g,0,none⟩) xs.length c,.int .i64 i,.slice (some ⟨vb,0,none⟩) 1 vc] w fun e w'=>
   e=.returned (.slice (some ⟨g,0,none⟩) (xs.length+1) c)/\w'=(w.drew.setCells g ((i+1) * 3) ((xs.drop i).flatMap cC)).setCells g (i * 3) (cC y):=by
 have hz:(Tryz.prog.info? 119).map (·.size)=some 3:=by kernel_rfl
 have hso:∀ w,(Dg 119).run Bv w=.ok 3 w:=fun _=>rfl
 have hu:=Cu;obtain ⟨cur,hg,hcm,hcs,htk⟩:∃ cur:Array Ck,w.heap[g]?=some (.cells cur 119 (0,0))/\c<=BL/\cur.size=c * 3/\cur.toList.take (xs.length * 3)=xs.flatMap cC:=by
  rcases h.2 with ⟨hv,_⟩ | ⟨g',cap,cur,hv,_,hg,_,hm,hc,ht⟩
  ·cases hv
  ·injection hv with e1 e2 e3
   injection e1 with e1
   injection e1 with e1
   subst e1 e3;exact ⟨cur,hg,hm,hc,ht⟩
 unfold BL at hcm;have hcell:∀ j,j<c * 3->(w.cell? ⟨g,j,none⟩).isSome=true:=fun j hj=>by rw [ae hg,Bt (by omega)];rfl
 have hread:∀ j v,(xs.flatMap cC)[j]?=some v->w.cell? ⟨g,j,none⟩=some v:=fun j v hj=>by
  rw [<- htk,BH] at hj
  split at hj
  ·rw [ae hg];simpa using hj
  ·cases hj
 have hov:∀ lb cb,(callFunc 127 #[.slice (some ⟨vb,0,none⟩) 1 vc,.slice (some ⟨g,(i+1) * 3,none⟩) lb cb]).run Bv w=.ok (.value (.bool false)) w:=fun lb cb=>by
  rw [CD Tryz.func127 (by kernel_rfl) (by kernel_rfl) (by kernel_rfl) (e:=Cb #[108,108] #[4]) (by kernel_rfl),
   Cy w 108 4 119 hu 3 hso ⟨vb,0,none⟩ ⟨g,(i+1) * 3,none⟩ 1 vc lb cb hvb tA 119 (cC y).toArray.size cur.size (fX hv) (fX hg) (by rw [hcs];omega) (ab hv _) (ab hv _)]
  rfl
 have hdl:((xs.drop i).flatMap cC).length=(xs.length - i) * 3:=by rw [aC cC 3 (iL).hl,Bw]
 have hcp1:∀ ty dc sc,(BQ #[108,108] ty #[.slice (some ⟨g,(i+1) * 3,none⟩) (xs.length - i) dc,.slice (some ⟨g,i * 3,none⟩) (xs.length+1 - i) sc]).run Bv w.drew=.ok (CO ((xs.length - i:Nat):Int)) (w.drew.setCells g ((i+1) * 3) ((xs.drop i).flatMap cC)):=fun ty dc sc=>by
  have:=bU (P:=Bv) w.drew 108 108 ty 119 g ((i+1) * 3) (xs.length - i) dc ⟨g,i * 3,none⟩ (xs.length+1 - i) sc ((xs.drop i).flatMap cC) 3 hu hz
   (by rw [hdl];congr 1;simp only [BE];split <;> omega)
   (fun j v hj=>by rw [BJ];exact hread _ v (by rw [<- dJ (iL).hl,BM] at hj;first | exact hj | simpa using hj))
   (fun j hj=>hcell _ (by omega)) (fun j hj=>ab hg _)
   (fun v hv=>by
     obtain ⟨x,_,hx⟩:=List.mem_flatMap.1 hv;exact (iL).h1 x v hx)
  rw [show Cz (xs.length+1 - i) (xs.length - i)=xs.length - i by simp only [BE];split <;> omega] at this;exact this
 obtain ⟨W1,hW1⟩:∃ W1,W1=w.drew.setCells g ((i+1) * 3) ((xs.drop i).flatMap cC):=⟨_,rfl⟩;have hs1:=bS ((xs.drop i).flatMap cC) ((i+1) * 3) (w:=w.drew) hg (by omega);rw [<- hW1] at hs1;have hv1:W1.heap[vb]?=some (.cells (cC y).toArray tA (0,0)):=by rw [hW1];exact ((Ch.refl (fun k=>k=g) w).drew.trans (dx _ _ _)).keep hv hvb
 have hyl:(cC y).length=3:=(iL).hl y
 have hcp2:∀ (W:BV),W.heap=W1.heap->∀ ty dc,(BQ #[108,108] ty #[.slice (some ⟨g,i * 3,none⟩) (xs.length+1 - i) dc,.slice (some ⟨vb,0,none⟩) 1 vc]).run Bv W=.ok (CO ((1:Nat):Int)) (W.setCells g (i * 3) (cC y)):=fun W hW ty dc=>by
  have hgW:=hs1;have hvW:=hv1;rw [<- hW] at hgW hvW;have:=bU (P:=Bv) W 108 108 ty 119 g (i * 3) (xs.length+1 - i) dc ⟨vb,0,none⟩ 1 vc (cC y) 3 hu hz
   (by rw [hyl];simp only [BE];split <;> omega)
   (fun j v hj=>by rw [BJ,ae hvW];simpa using hj)
   (fun j hj=>by rw [ae hgW,Bt (by simp only [BD,BA,Bx,Bw,BG,hdl];omega)];rfl)
   (fun j hj=>ab hgW _)
   (fun v hv=>(iL).h1 y v hv)
  rw [show Cz 1 (xs.length+1 - i)=1 by simp only [BE];split <;> omega] at this;exact this
 rw [<- hW1] at hcp1 ⊢;have hzi:(1:Int)≠0:=by decide
 have mixed:Tryz.prog.follows .mixedOrders=true:=by kernel_rfl
 have hz2:¬ ((i:Int)=(xs.length:Int)):=by omega
 have hw1:IntKind.i64.wrap ((i:Int)+1)=(i:Int)+1:=by rw [BC];omega
 have hw2:IntKind.i64.wrap ((xs.length:Int)+1)=(xs.length:Int)+1:=by rw [BC];omega
 have hb1:(0:Int)<=(i:Int)+1:=by omega
 have hin:i<=xs.length:=by omega
 have htn:((i:Int)+1).toNat=i+1:=by omega
 have htn2:((xs.length:Int)+1).toNat=xs.length+1:=by omega
 have hb2:¬ (c=i+1):=by omega
 have hb3:(i:Int)<=(xs.length:Int)+1:=by omega
 have hb4:¬ (c=i):=by omega
 clear hs1 hv1 hcell hread htk hcs hg hdl hz hso h hv;go_enter CZ,CW;go_wp2_with (simp only [hov]);go_region_law_o (refine Cl rfl _ _ 108 108 rfl _ _ (by simp [BN,BS]) (by simp [BN,BS]) (hcp1 _ _ _) ?_);go_wp2_with (at_builtin;refine Cc _ rfl _ _ 108 108 rfl _ _ rfl rfl (hcp2 _ rfl _ _) ?_);go_ret
 first | exact ⟨rfl,rfl⟩ | exact ⟨rfl,by rw [hW1]⟩
theorem uF (xs:List Ce) (i:Nat) (y:Ce) (base g c vb vc:Nat) (tA:Cw) (w:BV) (h:Own cC 3 119 base w (.slice (some ⟨g,0,none⟩) xs.length c) xs) (hi:i<xs.length) (hnr:c<xs.length+1) (hbase:base<=w.heap.size) (hn:xs.length<=100000) (hv:w.heap[vb]?=some (.cells (cC y).toArray tA (0,0))):
  Cr Bv 72 #[.slice (some ⟨g,0,none⟩) xs.length c,.int .i64 i,.slice (some ⟨vb,0,none⟩) 1 vc] w fun e w'=>
   ∃ v',e=.returned v'/\Own cC 3 119 base w' v' (xs.insertIdx i y)/\w.grownBy w' (some g)/\(v'.ownBlock=some g\/v'.ownBlock=some w.heap.size):=by
 have mixed:Tryz.prog.follows .mixedOrders=true:=by kernel_rfl
 have hz:(Tryz.prog.info? 119).map (·.size)=some 3:=by kernel_rfl
 have hu:=Cu;have hui:=Cq;obtain ⟨_,⟨i0,z,hi0,hz0,hsz,hby,hzs⟩,_,hl,h1⟩:=iL;obtain ⟨cur,hg,hnc,htk⟩:∃ cur:Array Ck,w.heap[g]?=some (.cells cur 119 (0,0))/\xs.length<=c/\cur.toList.take (xs.length * 3)=xs.flatMap cC:=by
  rcases h.2 with ⟨hv,_⟩ | ⟨g',cap,cur,hv,_,hg,hnc,hm,hc,ht⟩
  ·cases hv
  ·injection hv with e1 e2 e3
   injection e1 with e1
   injection e1 with e1
   subst e1 e3;exact ⟨cur,hg,hnc,ht⟩
 have hgw:=aj hg;have hvw:=aj hv
 have hread:∀ j v,(xs.flatMap cC)[j]?=some v->w.cell? ⟨g,j,none⟩=some v:=fun j v hj=>by
  rw [<- htk,BH] at hj
  split at hj
  ·rw [ae hg];simpa using hj
  ·cases hj
 have htl:((xs.take i).flatMap cC).length=i * 3:=by rw [aC cC 3 hl,Bx,BB (by omega)]
 have hold:(CF i0.size i (.slice (some ⟨g,0,none⟩) i c)).run Bv w.drew=.ok ((xs.take i).flatMap cC).toArray w.drew:=by
  rw [hsz]
  exact CE w.drew 3 i ⟨g,0,none⟩ i c ((xs.take i).flatMap cC) (by rw [htl,CT]) (fun j v hj=>by
   rw [BJ,Ca];rw [<- cT hl,BH] at hj
   split at hj
   ·exact hread j v hj
   ·cases hj)
 have hik:i+(xs.length+1 - i)=xs.length+1:=by omega
 have hkk:(xs.length:Int)+1 - (i:Int)=((xs.length+1 - i:Nat):Int):=by omega
 have hrz:∀ ty,(Ct #[108,3] ty #[.slice (some ⟨g,0,none⟩) i c,.int .i64 ((xs.length:Int)+1 - (i:Int))]).run Bv w=
   .ok (.slice (some ⟨w.heap.size,0,none⟩) (xs.length+1) (BR w (xs.length+1) c 119)) (w.drew.alloc (.cells (((xs.take i).flatMap cC).toArray ++ Bz z.cells (xs.length+1 - i) ++ Bz z.cells (BR w (xs.length+1) c 119 - (xs.length+1))) 119)):=fun ty=>by
  have h:=Cs w 108 3 ty 119 i0 _ .i64 .i64 hu hui hi0 hz0 (some ⟨g,0,none⟩) i c ((xs.take i).flatMap cC) hold (xs.length+1 - i) (by omega) (by omega) (by omega) (by omega) (by rw [hby];omega) (by rw [hby,hik];exact CP hnr (by omega));rw [hik] at h;rw [hkk];exact h
 have hGn:xs.length+1<=BR w (xs.length+1) c 119:=CI w _ _ _;have hGm:BR w (xs.length+1) c 119<=BL:=Cg w (xs.length+1) c 119 (by unfold BL;omega);generalize BR w (xs.length+1) c 119=G at *;obtain ⟨ROW,hROW⟩:∃ ROW:Array Ck,ROW=((xs.take i).flatMap cC).toArray ++ Bz z.cells (xs.length+1 - i) ++ Bz z.cells (G - (xs.length+1)):=⟨_,rfl⟩;rw [<- hROW] at hrz;have hRs:ROW.size=G * 3:=by rw [hROW,BT,BT,BD,htl,BU,BU,hzs,<- Cm,<- Cm];congr 1;omega
 have hRt:ROW.toList.take (i * 3)=(xs.take i).flatMap cC:=by rw [hROW,BX,BX,BP,BF,htl,BK (by simp only [htl];omega),CU];simp
 obtain ⟨W1,hW1⟩:∃ W1,W1=w.drew.alloc (.cells ROW 119):=⟨_,rfl⟩;have hh1:W1.heap[w.heap.size]?=some (.cells ROW 119 (0,0)):=by rw [hW1];exact CQ w.drew _
 have hg1:W1.heap[g]?=some (.cells cur 119 (0,0)):=by rw [hW1];exact am (w:=w.drew) hg _
 have hv1:W1.heap[vb]?=some (.cells (cC y).toArray tA (0,0)):=by rw [hW1];exact am (w:=w.drew) hv _
 rw [<- hW1] at hrz;have hyl:(cC y).length=3:=hl y;have hdl:((xs.drop i).flatMap cC).length=(xs.length - i) * 3:=by rw [aC cC 3 hl,Bw]
 have hGz:(xs.length+1) * 3<=G * 3:=CB _ hGn
 have hcpA:∀ (W:BV),W.heap=W1.heap->∀ ty dc,(BQ #[108,108] ty #[.slice (some ⟨w.heap.size,i * 3,none⟩) (xs.length+1 - i) dc,.slice (some ⟨vb,0,none⟩) 1 vc]).run Bv W=.ok (CO ((1:Nat):Int)) (W.setCells w.heap.size (i * 3) (cC y)):=fun W hW ty dc=>by
  have hgW:=hh1;have hvW:=hv1;rw [<- hW] at hgW hvW;have:=bU (P:=Bv) W 108 108 ty 119 w.heap.size (i * 3) (xs.length+1 - i) dc ⟨vb,0,none⟩ 1 vc (cC y) 3 hu hz
   (by rw [hyl];simp only [BE];split <;> omega)
   (fun j v hj=>by rw [BJ,ae hvW];simpa using hj)
   (fun j hj=>by rw [ae hgW,Bt (by omega)];rfl)
   (fun j hj=>ab hgW _)
   (fun v hv=>h1 y v hv)
  rw [show Cz 1 (xs.length+1 - i)=1 by simp only [BE];split <;> omega] at this;exact this
 have hh2:=bS (cC y) (i * 3) hh1 (by omega);have hne:g≠w.heap.size:=by omega
 have hg2:(W1.setCells w.heap.size (i * 3) (cC y)).heap[g]?=some (.cells cur 119 (0,0)):=(dx (cC y) (i * 3) W1).keep hg1 hne
 have hcpB:∀ (W:BV),W.heap=(W1.setCells w.heap.size (i * 3) (cC y)).heap->∀ ty dc sc,(BQ #[108,108] ty #[.slice (some ⟨w.heap.size,(i+1) * 3,none⟩) (xs.length - i) dc,.slice (some ⟨g,i * 3,none⟩) (xs.length - i) sc]).run Bv W=.ok (CO ((xs.length - i:Nat):Int)) (W.setCells w.heap.size ((i+1) * 3) ((xs.drop i).flatMap cC)):=fun W hW ty dc sc=>by
  have hgW:=hh2;have hvW:=hg2;rw [<- hW] at hgW hvW;have:=bU (P:=Bv) W 108 108 ty 119 w.heap.size ((i+1) * 3) (xs.length - i) dc ⟨g,i * 3,none⟩ (xs.length - i) sc ((xs.drop i).flatMap cC) 3 hu hz
   (by rw [hdl];congr 1;simp only [BE];split <;> omega)
   (fun j v hj=>by
     rw [BJ,ae hvW];have:=hread (i * 3+j) v (by rw [<- dJ hl,BM] at hj;exact hj);rw [ae hg] at this
     first | exact this | simpa using this)
   (fun j hj=>by rw [ae hgW,Bt (by simp only [BD,BA,Bx,Bw,BG,hyl];omega)];rfl)
   (fun j hj=>ab hgW _)
   (fun v hv=>by
     obtain ⟨x,_,hx⟩:=List.mem_flatMap.1 hv;exact h1 x v hx)
  rw [show Cz (xs.length - i) (xs.length - i)=xs.length - i by simp only [BE];split <;> omega] at this;exact this
 have HOWN:=Z (Own.zR (f:=cC) (size:=3) (e:=119) (base:=base) (w:=w.drew) hl (by omega:i<=xs.length) y hbase hGn hGm hRs hRt);have HGR:=Z (show w.grownBy W1 (some g) by rw [hW1];exact jf (bW (cG w _)) _);have HW1:=Z hW1;clear hW1;have hz2:¬ ((i:Int)=(xs.length:Int)):=by omega
 have hz3:(c:Int)<(xs.length:Int)+1:=by omega
 have hw1:IntKind.i64.wrap ((i:Int)+1)=(i:Int)+1:=by rw [BC];omega
 have hw2:IntKind.i64.wrap ((xs.length:Int)+1)=(xs.length:Int)+1:=by rw [BC];omega
 have hb1:(0:Int)<=(i:Int)+1:=by omega
 have hin:i<=xs.length:=by omega
 have htn:((i:Int)+1).toNat=i+1:=by omega
 have hb3:(i:Int)<=(xs.length:Int)+1:=by omega
 unfold BL at hGm;have hGi:¬ (G=i):=by omega
 have hGim:¬ (G=i+1):=by omega
 have hci:¬ (c=i):=by omega
 clear hh1 hh2 hg1 hg2 hv1 hread htk hdl hz h hv hold hROW hRs hRt hkk hik htl hg hzs hsz hby hi0 hz0;go_enter CZ,CW;go_wp2_with (first
  | (at_builtin;refine BZ _ rfl _ _ _ _ rfl _ _ rfl rfl _ _ (hrz _) ?_)
  | (at_builtin;refine Cc _ rfl _ _ 108 108 rfl _ _ rfl rfl (hcpA _ rfl _ _) ?_))
 go_region_law_o (refine Cl rfl _ _ 108 108 rfl _ _ (by simp [BN,BS]) (by simp [BN,BS]) (hcpB ((W1.setCells w.heap.size (i * 3) (cC y)).drew) rfl 3 (G - (i+1)) (c - i)) ?_);go_wp2;go_ret;have hW1:=HW1.out;subst hW1;refine ⟨_,rfl,?_,?_,.inr rfl⟩
 ·rw [dy]
  first
  | exact Own.drew HOWN.out
  | (have h9:=HOWN.out;simp only [CY] at h9;exact Own.drew h9)
 ·rw [dy];exact bW (aB (aB HGR.out (.inr (BI _)) _) (.inr (BI _)) _)
theorem wB (xs:List Ce) (y:Ce) (base vb vc:Nat) (v:Ck) (tA:Cw) (w:BV) (h:Own cC 3 119 base w v xs) (hbase:base<=w.heap.size) (hn:xs.length<=100000) (hv:w.heap[vb]?=some (.cells (cC y).toArray tA (0,0))):
  Cr Bv 72 #[v,.int .i64 xs.length,.slice (some ⟨vb,0,none⟩) 1 vc] w fun e w'=>
   ∃ v',e=.returned v'/\Own cC 3 119 base w' v' (xs ++ [y])/\w.grownBy w' v.ownBlock/\(v'.ownBlock=v.ownBlock\/v'.ownBlock=some w.heap.size):=by
 have HY:=Z (show Sl cC 3 w (.slice (some ⟨vb,0,none⟩) 1 vc) [y] from Sl.Ad hv (iL).hl (by simp) rfl);have H:=Z h;obtain ⟨A,c,rfl⟩:=Sl.zM (h.sl (iL).hl);clear h hv;go_enter CZ,CW;rcases A with _ | ⟨g,o,sp⟩
 ·have h0:xs.length=0/\c=0:=by
   rcases H.out.2 with ⟨hv,h0⟩ | ⟨g',cap,cur,hv,_⟩
   ·injection hv with e1 e2 e3;exact ⟨e2,e3⟩
   ·cases hv
  obtain ⟨h0,rfl⟩:=h0;have HX:=H;rw [h0] at HX ⊢;have hxs:xs=[]:=Cf h0;go_wp2_with (at_builtin;refine Z (al rfl rfl iL rfl rfl HX.out HY.out (by unfold BL;simp;omega) (by simp;omega) hbase ?_) |>.out)
  all_goals
   intro v' w' h1 h2 h3;have H1:=Z h1;have H2:=Z h2;have H3:=Z h3;clear h1 h2 h3;go_wp2_with fail;go_ret;exact ⟨v',rfl,by first | exact H1.out | (rw [hxs];exact H1.out),H2.out,H3.out⟩
 ·obtain ⟨rfl,rfl⟩:o=0/\sp=none:=by
   rcases H.out.2 with ⟨hv,h0⟩ | ⟨g',cap,cur,hv,_⟩
   ·cases hv
   ·injection hv with e1 e2 e3
    injection e1 with e1
    injection e1 with e1 e2 e3
    exact ⟨e2,e3⟩
  go_wp2_with (at_builtin;refine Z (al rfl rfl iL rfl rfl H.out HY.out (by unfold BL;simp;omega) (by simp;omega) hbase ?_) |>.out)
  all_goals
   intro v' w' h1 h2 h3;have H1:=Z h1;have H2:=Z h2;have H3:=Z h3;clear h1 h2 h3;go_wp2_with fail;go_ret;exact ⟨v',rfl,by first | exact H1.out | (rw [hxs];exact H1.out),H2.out,H3.out⟩
theorem wC (xs:List Ce) (i:Nat) (y:Ce) (base vb vc:Nat) (v:Ck) (tA:Cw) (w:BV) (h:Own cC 3 119 base w v xs) (hi:i<=xs.length) (hbase:base<=w.heap.size) (hn:xs.length<=100000) (hv:w.heap[vb]?=some (.cells (cC y).toArray tA (0,0))) (hne:v.ownBlock≠some vb):
  Cr Bv 72 #[v,.int .i64 i,.slice (some ⟨vb,0,none⟩) 1 vc] w fun e w'=>
   ∃ v',e=.returned v'/\Own cC 3 119 base w' v' (xs.insertIdx i y)/\w.grownBy w' v.ownBlock/\(v'.ownBlock=v.ownBlock\/v'.ownBlock=some w.heap.size):=by
 by_cases he:i=xs.length
 ·subst he;rw [iu xs _ y (BI _),CL,CM];exact wB xs y base vb vc v tA w h hbase hn hv
 ·have h0:=h;rcases h.2 with ⟨_,h0⟩ | ⟨g,c,cur,rfl,_,hg,hnc,hm,hc,ht⟩
  ·omega
  ·by_cases hr:xs.length+1<=c
   ·refine (su xs i y base g c vb vc tA w h0 (by omega) hr hv (fun e=>hne (by rw [e];rfl))).mono ?_;rintro e w' ⟨rfl,rfl⟩;exact ⟨_,rfl,(by have:=(Own.drew h0).insert (iL).hl hi hr y;first | exact this | simpa using this),aB (aB (bW (cG w _)) (.inl rfl) _) (.inl rfl) _,.inl rfl⟩
   ·exact uF xs i y base g c vb vc tA w h0 (by omega) (by omega) hbase hn hv
theorem eD {α:Type}:∀ (xs:List α) (i:Nat),xs.eraseIdx i=xs.take i ++ xs.drop (i+1)
 | [],i=>by simp
 | a :: xs,0=>by simp
 | a :: xs,i+1=>by rw [List.eraseIdx_cons_succ,eD xs i];rfl
theorem rj (xs:List By) (i:Nat) (base g c:Nat) (w:BV) (h:Own sC 1 9 base w (.slice (some ⟨g,0,none⟩) xs.length c) xs) (hi:i<xs.length) (hn:xs.length<=100000):
  Cr Bv 74 #[.slice (some ⟨g,0,none⟩) xs.length c,.int .i64 i,.int .i64 ((i:Int)+1)] w fun e w'=>
   e=.returned (.slice (some ⟨g,0,none⟩) (xs.length - 1) c)/\Own sC 1 9 base w' (.slice (some ⟨g,0,none⟩) (xs.length - 1) c) (xs.eraseIdx i)/\w.grownBy w' (some g):=by
 have mixed:Tryz.prog.follows .mixedOrders=true:=by kernel_rfl
 have hu:=Cx;obtain ⟨_,⟨i0,z,hi0,hz0,hsz,hby,hzs⟩,_,_,_⟩:=gT;clear hz0 hby hzs;obtain ⟨cur,hg,hnc,hcm,hcs,htk⟩:∃ cur:Array Ck,w.heap[g]?=some (.cells cur 9 (0,0))/\xs.length<=c/\c<=BL/\cur.size=c * 1/\cur.toList.take (xs.length * 1)=xs.flatMap sC:=by
  rcases h.2 with ⟨hv,_⟩ | ⟨g',cap,cur,hv,_,hg,hnc,hm,hc,ht⟩
  ·cases hv
  ·injection hv with e1 e2 e3
   injection e1 with e1
   injection e1 with e1
   subst e1 e3;exact ⟨cur,hg,hnc,hm,hc,ht⟩
 unfold BL at hcm;have hel:(xs.eraseIdx i).length=xs.length - 1:=by rw [eD,BA,Bx,Bw];omega
 have hdl:((xs.drop (i+1)).flatMap sC).length=(xs.length - (i+1)) * 1:=by rw [aC sC 1 (gT).hl,Bw]
 have hread:∀ j v,(xs.flatMap sC)[j]?=some v->w.cell? ⟨g,j,none⟩=some v:=fun j v hj=>by
  rw [<- htk,BH] at hj
  split at hj
  ·rw [ae hg];simpa using hj
  ·cases hj
 by_cases hq:c=i+1
 ·subst hq;have hd0:xs.drop (i+1)=[]:=CA (by omega);obtain ⟨W1,hW1⟩:∃ W1,W1=w.drew.setCells g (0+i * 1) ((xs.drop (i+1)).flatMap sC):=⟨_,rfl⟩;have HO1:=Z (show Own sC 1 9 base W1 (.slice (some ⟨g,0,none⟩) (xs.length - 1) (i+1)) (xs.eraseIdx i) by
   have:=Own.zO (Own.drew h) (o:=0+i * 1) (vs:=(xs.drop (i+1)).flatMap sC) (ys:=xs.eraseIdx i) (gT).hl (by rw [hel];omega) (by rw [hdl];omega) (fun cur hcl ht=>by
    rw [hel,hdl,Ca,eD,BY];have e1:cur.take (i * 1)=(xs.take i).flatMap sC:=by rw [<- cT (gT).hl,<- ht,BO,BB (by omega)]
    rw [e1,BF,BK (by rw [BA,aC sC 1 (gT).hl,aC sC 1 (gT).hl,Bx,Bw,BB (by omega)];omega)];rw [BA,aC sC 1 (gT).hl,aC sC 1 (gT).hl,Bx,Bw,BB (by omega),show (xs.length - 1) * 1 - (i * 1+(xs.length - (i+1)) * 1)=0 by omega];simp)
   rw [hel] at this;rw [hW1];exact this)
  have hg1:=bS ((xs.drop (i+1)).flatMap sC) (0+i * 1) (w:=w.drew) hg (by rw [hdl,hcs];omega);rw [<- hW1] at hg1;have hcl:∀ ty,(Cn #[22] ty #[.slice (some ⟨g,xs.length - 1,none⟩) 1 ((i+1) - (xs.length - 1))]).run Bv W1=.ok (.tuple #[]) (W1.setCells g (xs.length - 1) [.string ⟨#[]⟩]):=fun ty=>
   dU (P:=Bv) W1 22 9 ty _ hu (fun _=>rfl) g (xs.length - 1) 1 _ (by omega) [.string ⟨#[]⟩] (by first | rfl | kernel_rfl | simp [Bz,CC]) (by simp [Co]) (fun j hj=>by
    have hj2:j<1:=hj;rw [ae hg1,Bt (by simp only [BD,BA,Bx,Bw,BG,hdl];omega)];rfl) (fun j hj=>ab hg1 _)
  have HO2:=Z (show Own sC 1 9 base (W1.setCells g (xs.length - 1) [.string ⟨#[]⟩]) (.slice (some ⟨g,0,none⟩) (xs.length - 1) (i+1)) (xs.eraseIdx i) by
   have:=Own.zO HO1.out (o:=xs.length - 1) (vs:=[.string ⟨#[]⟩]) (ys:=xs.eraseIdx i) (gT).hl (by rw [hel];omega) (by show xs.length - 1+1<=(i+1) * 1;omega) (fun cur hcl ht=>by
    rw [hel,BP,BF,Bx,BB (by omega),show (xs.length - 1) * 1 - (xs.length - 1)=0 by omega,Cp,Ci,BO,BB (by omega)];exact ht)
   rw [hel] at this;exact this)
  have HGR:=Z (show w.grownBy (W1.setCells g (xs.length - 1) [.string ⟨#[]⟩]) (some g) by
   rw [hW1];exact aB (aB (bW (cG w _)) (.inl rfl) _) (.inl rfl) _)
  have s1:Hid (((xs.drop (i+1)).flatMap sC).length=(xs.length - (i+1)) * 1):=hdl
  have s2:Hid (∀ u ∈ (xs.drop (i+1)).flatMap sC,u.oneCell'=true):=fun u hu=>by
   obtain ⟨x,_,hx⟩:=List.mem_flatMap.1 hu;exact (gT).h1 x u hx
  have s3:Hid (∀ t,t<((xs.drop (i+1)).flatMap sC).length->(w.drew.cell? ⟨g,0+i * 1+t,none⟩).isSome=true/\w.drew.frozen? ⟨g,0+i * 1+t,none⟩=false):=fun t ht=>by
   rw [hdl] at ht;refine ⟨?_,ab (w:=w.drew) hg _⟩;rw [ae (w:=w.drew) hg,Bt (by omega)];rfl
  have s4:Hid (∀ t u,((xs.drop (i+1)).flatMap sC)[t]?=some u->w.drew.cell? ((⟨g,0,none⟩:Addr).add t)=some u):=fun t u hu=>by
   rw [hd0] at hu;simp at hu
  have HW1:=Z hW1;have hic:i<=(i+1):=by omega
  have hjc:i+1<=(i+1):=by omega
  have hne1:¬ ((i:Int)=(i:Int)+1):=by omega
  have hw1:IntKind.i64.wrap ((i:Int)+1)=(i:Int)+1:=by rw [BC];omega
  have hb1:(0:Int)<=(i:Int)+1:=by omega
  have hb2:(i:Int)+1<=(xs.length:Int):=by omega
  have hb3:(i:Int)<=(i:Int)+1:=by omega
  have htn:((i:Int)+1).toNat=i+1:=by omega
  have hnl:i+(xs.length - (i+1))=xs.length - 1:=by omega
  have hnl2:xs.length - (xs.length - 1)=1:=by omega
  have hnl3:xs.length - 1<=xs.length:=by omega
  have hnl4:((xs.length - 1:Nat):Int)<=(xs.length:Int):=by omega
  have hnl5:¬ ((i+1)=xs.length - 1):=by omega
  have hnl6:xs.length<=(i+1):=by omega
  have hi1:i+1<=xs.length:=by omega
  clear hW1 hg1 hdl hel hcs htk hg h hread;go_enter Tryz.func74,Tryz.ntmps74;go_wp2_with fail;go_region_law_o (refine Cd rfl (.tmp 22) (.tmp 25) 22 rfl 9 i0 1 hu hi0 hsz g 0 i (i+1) (by simp [BN,BS]) ⟨g,0,none⟩ (xs.length - (i+1)) 0 ((xs.drop (i+1)).flatMap sC) (by simp [BN,BS] <;> omega) s1.out s4.out s2.out (by omega) s3.out ?_;rw [<- HW1.out,hnl]);go_wp2;go_ret;exact ⟨rfl,HO2.out,HGR.out⟩
 ·skip;obtain ⟨W1,hW1⟩:∃ W1,W1=w.drew.setCells g (0+i * 1) ((xs.drop (i+1)).flatMap sC):=⟨_,rfl⟩;have HO1:=Z (show Own sC 1 9 base W1 (.slice (some ⟨g,0,none⟩) (xs.length - 1) c) (xs.eraseIdx i) by
   have:=Own.zO (Own.drew h) (o:=0+i * 1) (vs:=(xs.drop (i+1)).flatMap sC) (ys:=xs.eraseIdx i) (gT).hl (by rw [hel];omega) (by rw [hdl];omega) (fun cur hcl ht=>by
    rw [hel,hdl,Ca,eD,BY];have e1:cur.take (i * 1)=(xs.take i).flatMap sC:=by rw [<- cT (gT).hl,<- ht,BO,BB (by omega)]
    rw [e1,BF,BK (by rw [BA,aC sC 1 (gT).hl,aC sC 1 (gT).hl,Bx,Bw,BB (by omega)];omega)];rw [BA,aC sC 1 (gT).hl,aC sC 1 (gT).hl,Bx,Bw,BB (by omega),show (xs.length - 1) * 1 - (i * 1+(xs.length - (i+1)) * 1)=0 by omega];simp)
   rw [hel] at this;rw [hW1];exact this)
  have hg1:=bS ((xs.drop (i+1)).flatMap sC) (0+i * 1) (w:=w.drew) hg (by rw [hdl,hcs];omega);rw [<- hW1] at hg1;have hcl:∀ ty,(Cn #[22] ty #[.slice (some ⟨g,xs.length - 1,none⟩) 1 (c - (xs.length - 1))]).run Bv W1=.ok (.tuple #[]) (W1.setCells g (xs.length - 1) [.string ⟨#[]⟩]):=fun ty=>
   dU (P:=Bv) W1 22 9 ty _ hu (fun _=>rfl) g (xs.length - 1) 1 _ (by omega) [.string ⟨#[]⟩] (by first | rfl | kernel_rfl | simp [Bz,CC]) (by simp [Co]) (fun j hj=>by
    have hj2:j<1:=hj;rw [ae hg1,Bt (by simp only [BD,BA,Bx,Bw,BG,hdl];omega)];rfl) (fun j hj=>ab hg1 _)
  have HO2:=Z (show Own sC 1 9 base (W1.setCells g (xs.length - 1) [.string ⟨#[]⟩]) (.slice (some ⟨g,0,none⟩) (xs.length - 1) c) (xs.eraseIdx i) by
   have:=Own.zO HO1.out (o:=xs.length - 1) (vs:=[.string ⟨#[]⟩]) (ys:=xs.eraseIdx i) (gT).hl (by rw [hel];omega) (by show xs.length - 1+1<=c * 1;omega) (fun cur hcl ht=>by
    rw [hel,BP,BF,Bx,BB (by omega),show (xs.length - 1) * 1 - (xs.length - 1)=0 by omega,Cp,Ci,BO,BB (by omega)];exact ht)
   rw [hel] at this;exact this)
  have HGR:=Z (show w.grownBy (W1.setCells g (xs.length - 1) [.string ⟨#[]⟩]) (some g) by
   rw [hW1];exact aB (aB (bW (cG w _)) (.inl rfl) _) (.inl rfl) _)
  have s1:Hid (((xs.drop (i+1)).flatMap sC).length=(xs.length - (i+1)) * 1):=hdl
  have s2:Hid (∀ u ∈ (xs.drop (i+1)).flatMap sC,u.oneCell'=true):=fun u hu=>by
   obtain ⟨x,_,hx⟩:=List.mem_flatMap.1 hu;exact (gT).h1 x u hx
  have s3:Hid (∀ t,t<((xs.drop (i+1)).flatMap sC).length->(w.drew.cell? ⟨g,0+i * 1+t,none⟩).isSome=true/\w.drew.frozen? ⟨g,0+i * 1+t,none⟩=false):=fun t ht=>by
   rw [hdl] at ht;refine ⟨?_,ab (w:=w.drew) hg _⟩;rw [ae (w:=w.drew) hg,Bt (by omega)];rfl
  have s4:Hid (∀ t u,((xs.drop (i+1)).flatMap sC)[t]?=some u->w.drew.cell? ((⟨g,i+1,none⟩:Addr).add t)=some u):=fun t u hu=>by
   rw [BJ];have h9:=hread ((i+1) * 1+t) u (by rw [<- dJ (gT).hl,BM] at hu;exact hu);first | exact h9 | simpa using h9
  have HW1:=Z hW1;have hic:i<=c:=by omega
  have hjc:i+1<=c:=by omega
  have hne1:¬ ((i:Int)=(i:Int)+1):=by omega
  have hw1:IntKind.i64.wrap ((i:Int)+1)=(i:Int)+1:=by rw [BC];omega
  have hb1:(0:Int)<=(i:Int)+1:=by omega
  have hb2:(i:Int)+1<=(xs.length:Int):=by omega
  have hb3:(i:Int)<=(i:Int)+1:=by omega
  have htn:((i:Int)+1).toNat=i+1:=by omega
  have hnl:i+(xs.length - (i+1))=xs.length - 1:=by omega
  have hnl2:xs.length - (xs.length - 1)=1:=by omega
  have hnl3:xs.length - 1<=xs.length:=by omega
  have hnl4:((xs.length - 1:Nat):Int)<=(xs.length:Int):=by omega
  have hnl5:¬ (c=xs.length - 1):=by omega
  have hnl6:xs.length<=c:=by omega
  have hi1:i+1<=xs.length:=by omega
  clear hW1 hg1 hdl hel hcs htk hg h hread;go_enter Tryz.func74,Tryz.ntmps74;go_wp2_with fail;go_region_law_o (refine Cd rfl (.tmp 22) (.tmp 25) 22 rfl 9 i0 1 hu hi0 hsz g 0 i c (by simp [BN,BS]) ⟨g,i+1,none⟩ (xs.length - (i+1)) (c - (i+1)) ((xs.drop (i+1)).flatMap sC) (by simp [BN,BS] <;> omega) s1.out s4.out s2.out (by omega) s3.out ?_;rw [<- HW1.out,hnl]);go_wp2;go_ret;exact ⟨rfl,HO2.out,HGR.out⟩
theorem wR (xs:List Int) (i:Nat) (base g c:Nat) (w:BV) (h:Own iC 1 3 base w (.slice (some ⟨g,0,none⟩) xs.length c) xs) (hi:i<xs.length) (hn:xs.length<=100000):
  Cr Bv 220 #[.slice (some ⟨g,0,none⟩) xs.length c,.int .i64 i,.int .i64 ((i:Int)+1)] w fun e w'=>
   e=.returned (.slice (some ⟨g,0,none⟩) (xs.length - 1) c)/\Own iC 1 3 base w' (.slice (some ⟨g,0,none⟩) (xs.length - 1) c) (xs.eraseIdx i)/\w.grownBy w' (some g):=by
 have mixed:Tryz.prog.follows .mixedOrders=true:=by kernel_rfl
 have hu:=Cj;obtain ⟨_,⟨i0,z,hi0,hz0,hsz,hby,hzs⟩,_,_,_⟩:=bI;clear hz0 hby hzs;obtain ⟨cur,hg,hnc,hcm,hcs,htk⟩:∃ cur:Array Ck,w.heap[g]?=some (.cells cur 3 (0,0))/\xs.length<=c/\c<=BL/\cur.size=c * 1/\cur.toList.take (xs.length * 1)=xs.flatMap iC:=by
  rcases h.2 with ⟨hv,_⟩ | ⟨g',cap,cur,hv,_,hg,hnc,hm,hc,ht⟩
  ·cases hv
  ·injection hv with e1 e2 e3
   injection e1 with e1
   injection e1 with e1
   subst e1 e3;exact ⟨cur,hg,hnc,hm,hc,ht⟩
 unfold BL at hcm;have hel:(xs.eraseIdx i).length=xs.length - 1:=by rw [eD,BA,Bx,Bw];omega
 have hdl:((xs.drop (i+1)).flatMap iC).length=(xs.length - (i+1)) * 1:=by rw [aC iC 1 (bI).hl,Bw]
 have hread:∀ j v,(xs.flatMap iC)[j]?=some v->w.cell? ⟨g,j,none⟩=some v:=fun j v hj=>by
  rw [<- htk,BH] at hj
  split at hj
  ·rw [ae hg];simpa using hj
  ·cases hj
 by_cases hq:c=i+1
 ·subst hq;have hd0:xs.drop (i+1)=[]:=CA (by omega);obtain ⟨W1,hW1⟩:∃ W1,W1=w.drew.setCells g (0+i * 1) ((xs.drop (i+1)).flatMap iC):=⟨_,rfl⟩;have HO1:=Z (show Own iC 1 3 base W1 (.slice (some ⟨g,0,none⟩) (xs.length - 1) (i+1)) (xs.eraseIdx i) by
   have:=Own.zO (Own.drew h) (o:=0+i * 1) (vs:=(xs.drop (i+1)).flatMap iC) (ys:=xs.eraseIdx i) (bI).hl (by rw [hel];omega) (by rw [hdl];omega) (fun cur hcl ht=>by
    rw [hel,hdl,Ca,eD,BY];have e1:cur.take (i * 1)=(xs.take i).flatMap iC:=by rw [<- cT (bI).hl,<- ht,BO,BB (by omega)]
    rw [e1,BF,BK (by rw [BA,aC iC 1 (bI).hl,aC iC 1 (bI).hl,Bx,Bw,BB (by omega)];omega)];rw [BA,aC iC 1 (bI).hl,aC iC 1 (bI).hl,Bx,Bw,BB (by omega),show (xs.length - 1) * 1 - (i * 1+(xs.length - (i+1)) * 1)=0 by omega];simp)
   rw [hel] at this;rw [hW1];exact this)
  have hg1:=bS ((xs.drop (i+1)).flatMap iC) (0+i * 1) (w:=w.drew) hg (by rw [hdl,hcs];omega);rw [<- hW1] at hg1;have hcl:∀ ty,(Cn #[37] ty #[.slice (some ⟨g,xs.length - 1,none⟩) 1 ((i+1) - (xs.length - 1))]).run Bv W1=.ok (.tuple #[]) (W1.setCells g (xs.length - 1) [.int .i64 0]):=fun ty=>
   dU (P:=Bv) W1 37 3 ty _ hu (fun _=>rfl) g (xs.length - 1) 1 _ (by omega) [.int .i64 0] (by first | rfl | kernel_rfl | simp [Bz,CC]) (by simp [Co]) (fun j hj=>by
    have hj2:j<1:=hj;rw [ae hg1,Bt (by simp only [BD,BA,Bx,Bw,BG,hdl];omega)];rfl) (fun j hj=>ab hg1 _)
  have HO2:=Z (show Own iC 1 3 base (W1.setCells g (xs.length - 1) [.int .i64 0]) (.slice (some ⟨g,0,none⟩) (xs.length - 1) (i+1)) (xs.eraseIdx i) by
   have:=Own.zO HO1.out (o:=xs.length - 1) (vs:=[.int .i64 0]) (ys:=xs.eraseIdx i) (bI).hl (by rw [hel];omega) (by show xs.length - 1+1<=(i+1) * 1;omega) (fun cur hcl ht=>by
    rw [hel,BP,BF,Bx,BB (by omega),show (xs.length - 1) * 1 - (xs.length - 1)=0 by omega,Cp,Ci,BO,BB (by omega)];exact ht)
   rw [hel] at this;exact this)
  have HGR:=Z (show w.grownBy (W1.setCells g (xs.length - 1) [.int .i64 0]) (some g) by
   rw [hW1];exact aB (aB (bW (cG w _)) (.inl rfl) _) (.inl rfl) _)
  have s1:Hid (((xs.drop (i+1)).flatMap iC).length=(xs.length - (i+1)) * 1):=hdl
  have s2:Hid (∀ u ∈ (xs.drop (i+1)).flatMap iC,u.oneCell'=true):=fun u hu=>by
   obtain ⟨x,_,hx⟩:=List.mem_flatMap.1 hu;exact (bI).h1 x u hx
  have s3:Hid (∀ t,t<((xs.drop (i+1)).flatMap iC).length->(w.drew.cell? ⟨g,0+i * 1+t,none⟩).isSome=true/\w.drew.frozen? ⟨g,0+i * 1+t,none⟩=false):=fun t ht=>by
   rw [hdl] at ht;refine ⟨?_,ab (w:=w.drew) hg _⟩;rw [ae (w:=w.drew) hg,Bt (by omega)];rfl
  have s4:Hid (∀ t u,((xs.drop (i+1)).flatMap iC)[t]?=some u->w.drew.cell? ((⟨g,0,none⟩:Addr).add t)=some u):=fun t u hu=>by
   rw [hd0] at hu;simp at hu
  have HW1:=Z hW1;have hic:i<=(i+1):=by omega
  have hjc:i+1<=(i+1):=by omega
  have hne1:¬ ((i:Int)=(i:Int)+1):=by omega
  have hw1:IntKind.i64.wrap ((i:Int)+1)=(i:Int)+1:=by rw [BC];omega
  have hb1:(0:Int)<=(i:Int)+1:=by omega
  have hb2:(i:Int)+1<=(xs.length:Int):=by omega
  have hb3:(i:Int)<=(i:Int)+1:=by omega
  have htn:((i:Int)+1).toNat=i+1:=by omega
  have hnl:i+(xs.length - (i+1))=xs.length - 1:=by omega
  have hnl2:xs.length - (xs.length - 1)=1:=by omega
  have hnl3:xs.length - 1<=xs.length:=by omega
  have hnl4:((xs.length - 1:Nat):Int)<=(xs.length:Int):=by omega
  have hnl5:¬ ((i+1)=xs.length - 1):=by omega
  have hnl6:xs.length<=(i+1):=by omega
  have hi1:i+1<=xs.length:=by omega
  clear hW1 hg1 hdl hel hcs htk hg h hread;go_enter Tryz.func220,Db;go_wp2_with fail;go_region_law_o (refine Cd rfl (.tmp 22) (.tmp 25) 37 rfl 3 i0 1 hu hi0 hsz g 0 i (i+1) (by simp [BN,BS]) ⟨g,0,none⟩ (xs.length - (i+1)) 0 ((xs.drop (i+1)).flatMap iC) (by simp [BN,BS] <;> omega) s1.out s4.out s2.out (by omega) s3.out ?_;rw [<- HW1.out,hnl]);go_wp2;go_ret;exact ⟨rfl,HO2.out,HGR.out⟩
 ·skip;obtain ⟨W1,hW1⟩:∃ W1,W1=w.drew.setCells g (0+i * 1) ((xs.drop (i+1)).flatMap iC):=⟨_,rfl⟩;have HO1:=Z (show Own iC 1 3 base W1 (.slice (some ⟨g,0,none⟩) (xs.length - 1) c) (xs.eraseIdx i) by
   have:=Own.zO (Own.drew h) (o:=0+i * 1) (vs:=(xs.drop (i+1)).flatMap iC) (ys:=xs.eraseIdx i) (bI).hl (by rw [hel];omega) (by rw [hdl];omega) (fun cur hcl ht=>by
    rw [hel,hdl,Ca,eD,BY];have e1:cur.take (i * 1)=(xs.take i).flatMap iC:=by rw [<- cT (bI).hl,<- ht,BO,BB (by omega)]
    rw [e1,BF,BK (by rw [BA,aC iC 1 (bI).hl,aC iC 1 (bI).hl,Bx,Bw,BB (by omega)];omega)];rw [BA,aC iC 1 (bI).hl,aC iC 1 (bI).hl,Bx,Bw,BB (by omega),show (xs.length - 1) * 1 - (i * 1+(xs.length - (i+1)) * 1)=0 by omega];simp)
   rw [hel] at this;rw [hW1];exact this)
  have hg1:=bS ((xs.drop (i+1)).flatMap iC) (0+i * 1) (w:=w.drew) hg (by rw [hdl,hcs];omega);rw [<- hW1] at hg1;have hcl:∀ ty,(Cn #[37] ty #[.slice (some ⟨g,xs.length - 1,none⟩) 1 (c - (xs.length - 1))]).run Bv W1=.ok (.tuple #[]) (W1.setCells g (xs.length - 1) [.int .i64 0]):=fun ty=>
   dU (P:=Bv) W1 37 3 ty _ hu (fun _=>rfl) g (xs.length - 1) 1 _ (by omega) [.int .i64 0] (by first | rfl | kernel_rfl | simp [Bz,CC]) (by simp [Co]) (fun j hj=>by
    have hj2:j<1:=hj;rw [ae hg1,Bt (by simp only [BD,BA,Bx,Bw,BG,hdl];omega)];rfl) (fun j hj=>ab hg1 _)
  have HO2:=Z (show Own iC 1 3 base (W1.setCells g (xs.length - 1) [.int .i64 0]) (.slice (some ⟨g,0,none⟩) (xs.length - 1) c) (xs.eraseIdx i) by
   have:=Own.zO HO1.out (o:=xs.length - 1) (vs:=[.int .i64 0]) (ys:=xs.eraseIdx i) (bI).hl (by rw [hel];omega) (by show xs.length - 1+1<=c * 1;omega) (fun cur hcl ht=>by
    rw [hel,BP,BF,Bx,BB (by omega),show (xs.length - 1) * 1 - (xs.length - 1)=0 by omega,Cp,Ci,BO,BB (by omega)];exact ht)
   rw [hel] at this;exact this)
  have HGR:=Z (show w.grownBy (W1.setCells g (xs.length - 1) [.int .i64 0]) (some g) by
   rw [hW1];exact aB (aB (bW (cG w _)) (.inl rfl) _) (.inl rfl) _)
  have s1:Hid (((xs.drop (i+1)).flatMap iC).length=(xs.length - (i+1)) * 1):=hdl
  have s2:Hid (∀ u ∈ (xs.drop (i+1)).flatMap iC,u.oneCell'=true):=fun u hu=>by
   obtain ⟨x,_,hx⟩:=List.mem_flatMap.1 hu;exact (bI).h1 x u hx
  have s3:Hid (∀ t,t<((xs.drop (i+1)).flatMap iC).length->(w.drew.cell? ⟨g,0+i * 1+t,none⟩).isSome=true/\w.drew.frozen? ⟨g,0+i * 1+t,none⟩=false):=fun t ht=>by
   rw [hdl] at ht;refine ⟨?_,ab (w:=w.drew) hg _⟩;rw [ae (w:=w.drew) hg,Bt (by omega)];rfl
  have s4:Hid (∀ t u,((xs.drop (i+1)).flatMap iC)[t]?=some u->w.drew.cell? ((⟨g,i+1,none⟩:Addr).add t)=some u):=fun t u hu=>by
   rw [BJ];have h9:=hread ((i+1) * 1+t) u (by rw [<- dJ (bI).hl,BM] at hu;exact hu);first | exact h9 | simpa using h9
  have HW1:=Z hW1;have hic:i<=c:=by omega
  have hjc:i+1<=c:=by omega
  have hne1:¬ ((i:Int)=(i:Int)+1):=by omega
  have hw1:IntKind.i64.wrap ((i:Int)+1)=(i:Int)+1:=by rw [BC];omega
  have hb1:(0:Int)<=(i:Int)+1:=by omega
  have hb2:(i:Int)+1<=(xs.length:Int):=by omega
  have hb3:(i:Int)<=(i:Int)+1:=by omega
  have htn:((i:Int)+1).toNat=i+1:=by omega
  have hnl:i+(xs.length - (i+1))=xs.length - 1:=by omega
  have hnl2:xs.length - (xs.length - 1)=1:=by omega
  have hnl3:xs.length - 1<=xs.length:=by omega
  have hnl4:((xs.length - 1:Nat):Int)<=(xs.length:Int):=by omega
  have hnl5:¬ (c=xs.length - 1):=by omega
  have hnl6:xs.length<=c:=by omega
  have hi1:i+1<=xs.length:=by omega
  clear hW1 hg1 hdl hel hcs htk hg h hread;go_enter Tryz.func220,Db;go_wp2_with fail;go_region_law_o (refine Cd rfl (.tmp 22) (.tmp 25) 37 rfl 3 i0 1 hu hi0 hsz g 0 i c (by simp [BN,BS]) ⟨g,i+1,none⟩ (xs.length - (i+1)) (c - (i+1)) ((xs.drop (i+1)).flatMap iC) (by simp [BN,BS] <;> omega) s1.out s4.out s2.out (by omega) s3.out ?_;rw [<- HW1.out,hnl]);go_wp2;go_ret;exact ⟨rfl,HO2.out,HGR.out⟩
theorem wS (xs:List Ce) (i:Nat) (base g c:Nat) (w:BV) (h:Own cC 3 119 base w (.slice (some ⟨g,0,none⟩) xs.length c) xs) (hi:i<xs.length) (hn:xs.length<=100000):
  Cr Bv 75 #[.slice (some ⟨g,0,none⟩) xs.length c,.int .i64 i,.int .i64 ((i:Int)+1)] w fun e w'=>
   e=.returned (.slice (some ⟨g,0,none⟩) (xs.length - 1) c)/\Own cC 3 119 base w' (.slice (some ⟨g,0,none⟩) (xs.length - 1) c) (xs.eraseIdx i)/\w.grownBy w' (some g):=by
 have mixed:Tryz.prog.follows .mixedOrders=true:=by kernel_rfl
 have hu:=Cu;obtain ⟨_,⟨i0,z,hi0,hz0,hsz,hby,hzs⟩,_,_,_⟩:=iL;clear hz0 hby hzs;obtain ⟨cur,hg,hnc,hcm,hcs,htk⟩:∃ cur:Array Ck,w.heap[g]?=some (.cells cur 119 (0,0))/\xs.length<=c/\c<=BL/\cur.size=c * 3/\cur.toList.take (xs.length * 3)=xs.flatMap cC:=by
  rcases h.2 with ⟨hv,_⟩ | ⟨g',cap,cur,hv,_,hg,hnc,hm,hc,ht⟩
  ·cases hv
  ·injection hv with e1 e2 e3
   injection e1 with e1
   injection e1 with e1
   subst e1 e3;exact ⟨cur,hg,hnc,hm,hc,ht⟩
 unfold BL at hcm;have hel:(xs.eraseIdx i).length=xs.length - 1:=by rw [eD,BA,Bx,Bw];omega
 have hdl:((xs.drop (i+1)).flatMap cC).length=(xs.length - (i+1)) * 3:=by rw [aC cC 3 (iL).hl,Bw]
 have hread:∀ j v,(xs.flatMap cC)[j]?=some v->w.cell? ⟨g,j,none⟩=some v:=fun j v hj=>by
  rw [<- htk,BH] at hj
  split at hj
  ·rw [ae hg];simpa using hj
  ·cases hj
 by_cases hq:c=i+1
 ·subst hq;have hd0:xs.drop (i+1)=[]:=CA (by omega);obtain ⟨W1,hW1⟩:∃ W1,W1=w.drew.setCells g (0+i * 3) ((xs.drop (i+1)).flatMap cC):=⟨_,rfl⟩;have HO1:=Z (show Own cC 3 119 base W1 (.slice (some ⟨g,0,none⟩) (xs.length - 1) (i+1)) (xs.eraseIdx i) by
   have:=Own.zO (Own.drew h) (o:=0+i * 3) (vs:=(xs.drop (i+1)).flatMap cC) (ys:=xs.eraseIdx i) (iL).hl (by rw [hel];omega) (by rw [hdl];omega) (fun cur hcl ht=>by
    rw [hel,hdl,Ca,eD,BY];have e1:cur.take (i * 3)=(xs.take i).flatMap cC:=by rw [<- cT (iL).hl,<- ht,BO,BB (by omega)]
    rw [e1,BF,BK (by rw [BA,aC cC 3 (iL).hl,aC cC 3 (iL).hl,Bx,Bw,BB (by omega)];omega)];rw [BA,aC cC 3 (iL).hl,aC cC 3 (iL).hl,Bx,Bw,BB (by omega),show (xs.length - 1) * 3 - (i * 3+(xs.length - (i+1)) * 3)=0 by omega];simp)
   rw [hel] at this;rw [hW1];exact this)
  have hg1:=bS ((xs.drop (i+1)).flatMap cC) (0+i * 3) (w:=w.drew) hg (by rw [hdl,hcs];omega);rw [<- hW1] at hg1;have hcl:∀ ty,(Cn #[108] ty #[.slice (some ⟨g,(xs.length - 1) * 3,none⟩) 1 ((i+1) - (xs.length - 1))]).run Bv W1=.ok (.tuple #[]) (W1.setCells g ((xs.length - 1) * 3) [.int .i64 0,.string ⟨#[]⟩,.int .i64 0]):=fun ty=>
   dU (P:=Bv) W1 108 119 ty _ hu (fun _=>rfl) g ((xs.length - 1) * 3) 1 _ (by omega) [.int .i64 0,.string ⟨#[]⟩,.int .i64 0] (by first | rfl | kernel_rfl | simp [Bz,CC]) (by simp [Co]) (fun j hj=>by
    have hj2:j<3:=hj;rw [ae hg1,Bt (by simp only [BD,BA,Bx,Bw,BG,hdl];omega)];rfl) (fun j hj=>ab hg1 _)
  have HO2:=Z (show Own cC 3 119 base (W1.setCells g ((xs.length - 1) * 3) [.int .i64 0,.string ⟨#[]⟩,.int .i64 0]) (.slice (some ⟨g,0,none⟩) (xs.length - 1) (i+1)) (xs.eraseIdx i) by
   have:=Own.zO HO1.out (o:=(xs.length - 1) * 3) (vs:=[.int .i64 0,.string ⟨#[]⟩,.int .i64 0]) (ys:=xs.eraseIdx i) (iL).hl (by rw [hel];omega) (by show (xs.length - 1) * 3+3<=(i+1) * 3;omega) (fun cur hcl ht=>by
    rw [hel,BP,BF,Bx,BB (by omega),show (xs.length - 1) * 3 - ((xs.length - 1) * 3)=0 by omega,Cp,Ci,BO,BB (by omega)];exact ht)
   rw [hel] at this;exact this)
  have HGR:=Z (show w.grownBy (W1.setCells g ((xs.length - 1) * 3) [.int .i64 0,.string ⟨#[]⟩,.int .i64 0]) (some g) by
   rw [hW1];exact aB (aB (bW (cG w _)) (.inl rfl) _) (.inl rfl) _)
  have s1:Hid (((xs.drop (i+1)).flatMap cC).length=(xs.length - (i+1)) * 3):=hdl
  have s2:Hid (∀ u ∈ (xs.drop (i+1)).flatMap cC,u.oneCell'=true):=fun u hu=>by
   obtain ⟨x,_,hx⟩:=List.mem_flatMap.1 hu;exact (iL).h1 x u hx
  have s3:Hid (∀ t,t<((xs.drop (i+1)).flatMap cC).length->(w.drew.cell? ⟨g,0+i * 3+t,none⟩).isSome=true/\w.drew.frozen? ⟨g,0+i * 3+t,none⟩=false):=fun t ht=>by
   rw [hdl] at ht;refine ⟨?_,ab (w:=w.drew) hg _⟩;rw [ae (w:=w.drew) hg,Bt (by omega)];rfl
  have s4:Hid (∀ t u,((xs.drop (i+1)).flatMap cC)[t]?=some u->w.drew.cell? ((⟨g,0,none⟩:Addr).add t)=some u):=fun t u hu=>by
   rw [hd0] at hu;simp at hu
  have HW1:=Z hW1;have hic:i<=(i+1):=by omega
  have hjc:i+1<=(i+1):=by omega
  have hne1:¬ ((i:Int)=(i:Int)+1):=by omega
  have hw1:IntKind.i64.wrap ((i:Int)+1)=(i:Int)+1:=by rw [BC];omega
  have hb1:(0:Int)<=(i:Int)+1:=by omega
  have hb2:(i:Int)+1<=(xs.length:Int):=by omega
  have hb3:(i:Int)<=(i:Int)+1:=by omega
  have htn:((i:Int)+1).toNat=i+1:=by omega
  have hnl:i+(xs.length - (i+1))=xs.length - 1:=by omega
  have hnl2:xs.length - (xs.length - 1)=1:=by omega
  have hnl3:xs.length - 1<=xs.length:=by omega
  have hnl4:((xs.length - 1:Nat):Int)<=(xs.length:Int):=by omega
  have hnl5:¬ ((i+1)=xs.length - 1):=by omega
  have hnl6:xs.length<=(i+1):=by omega
  have hi1:i+1<=xs.length:=by omega
  clear hW1 hg1 hdl hel hcs htk hg h hread;go_enter Tryz.func75,Tryz.ntmps75;go_wp2_with fail;go_region_law_o (refine Cd rfl (.tmp 22) (.tmp 25) 108 rfl 119 i0 3 hu hi0 hsz g 0 i (i+1) (by simp [BN,BS]) ⟨g,0,none⟩ (xs.length - (i+1)) 0 ((xs.drop (i+1)).flatMap cC) (by simp [BN,BS] <;> omega) s1.out s4.out s2.out (by omega) s3.out ?_;rw [<- HW1.out,hnl]);go_wp2;go_ret;exact ⟨rfl,HO2.out,HGR.out⟩
 ·skip;obtain ⟨W1,hW1⟩:∃ W1,W1=w.drew.setCells g (0+i * 3) ((xs.drop (i+1)).flatMap cC):=⟨_,rfl⟩;have HO1:=Z (show Own cC 3 119 base W1 (.slice (some ⟨g,0,none⟩) (xs.length - 1) c) (xs.eraseIdx i) by
   have:=Own.zO (Own.drew h) (o:=0+i * 3) (vs:=(xs.drop (i+1)).flatMap cC) (ys:=xs.eraseIdx i) (iL).hl (by rw [hel];omega) (by rw [hdl];omega) (fun cur hcl ht=>by
    rw [hel,hdl,Ca,eD,BY];have e1:cur.take (i * 3)=(xs.take i).flatMap cC:=by rw [<- cT (iL).hl,<- ht,BO,BB (by omega)]
    rw [e1,BF,BK (by rw [BA,aC cC 3 (iL).hl,aC cC 3 (iL).hl,Bx,Bw,BB (by omega)];omega)];rw [BA,aC cC 3 (iL).hl,aC cC 3 (iL).hl,Bx,Bw,BB (by omega),show (xs.length - 1) * 3 - (i * 3+(xs.length - (i+1)) * 3)=0 by omega];simp)
   rw [hel] at this;rw [hW1];exact this)
  have hg1:=bS ((xs.drop (i+1)).flatMap cC) (0+i * 3) (w:=w.drew) hg (by rw [hdl,hcs];omega);rw [<- hW1] at hg1;have hcl:∀ ty,(Cn #[108] ty #[.slice (some ⟨g,(xs.length - 1) * 3,none⟩) 1 (c - (xs.length - 1))]).run Bv W1=.ok (.tuple #[]) (W1.setCells g ((xs.length - 1) * 3) [.int .i64 0,.string ⟨#[]⟩,.int .i64 0]):=fun ty=>
   dU (P:=Bv) W1 108 119 ty _ hu (fun _=>rfl) g ((xs.length - 1) * 3) 1 _ (by omega) [.int .i64 0,.string ⟨#[]⟩,.int .i64 0] (by first | rfl | kernel_rfl | simp [Bz,CC]) (by simp [Co]) (fun j hj=>by
    have hj2:j<3:=hj;rw [ae hg1,Bt (by simp only [BD,BA,Bx,Bw,BG,hdl];omega)];rfl) (fun j hj=>ab hg1 _)
  have HO2:=Z (show Own cC 3 119 base (W1.setCells g ((xs.length - 1) * 3) [.int .i64 0,.string ⟨#[]⟩,.int .i64 0]) (.slice (some ⟨g,0,none⟩) (xs.length - 1) c) (xs.eraseIdx i) by
   have:=Own.zO HO1.out (o:=(xs.length - 1) * 3) (vs:=[.int .i64 0,.string ⟨#[]⟩,.int .i64 0]) (ys:=xs.eraseIdx i) (iL).hl (by rw [hel];omega) (by show (xs.length - 1) * 3+3<=c * 3;omega) (fun cur hcl ht=>by
    rw [hel,BP,BF,Bx,BB (by omega),show (xs.length - 1) * 3 - ((xs.length - 1) * 3)=0 by omega,Cp,Ci,BO,BB (by omega)];exact ht)
   rw [hel] at this;exact this)
  have HGR:=Z (show w.grownBy (W1.setCells g ((xs.length - 1) * 3) [.int .i64 0,.string ⟨#[]⟩,.int .i64 0]) (some g) by
   rw [hW1];exact aB (aB (bW (cG w _)) (.inl rfl) _) (.inl rfl) _)
  have s1:Hid (((xs.drop (i+1)).flatMap cC).length=(xs.length - (i+1)) * 3):=hdl
  have s2:Hid (∀ u ∈ (xs.drop (i+1)).flatMap cC,u.oneCell'=true):=fun u hu=>by
   obtain ⟨x,_,hx⟩:=List.mem_flatMap.1 hu;exact (iL).h1 x u hx
  have s3:Hid (∀ t,t<((xs.drop (i+1)).flatMap cC).length->(w.drew.cell? ⟨g,0+i * 3+t,none⟩).isSome=true/\w.drew.frozen? ⟨g,0+i * 3+t,none⟩=false):=fun t ht=>by
   rw [hdl] at ht;refine ⟨?_,ab (w:=w.drew) hg _⟩;rw [ae (w:=w.drew) hg,Bt (by omega)];rfl
  have s4:Hid (∀ t u,((xs.drop (i+1)).flatMap cC)[t]?=some u->w.drew.cell? ((⟨g,(i+1) * 3,none⟩:Addr).add t)=some u):=fun t u hu=>by
   rw [BJ];have h9:=hread ((i+1) * 3+t) u (by rw [<- dJ (iL).hl,BM] at hu;exact hu);first | exact h9 | simpa using h9
  have HW1:=Z hW1;have hic:i<=c:=by omega
  have hjc:i+1<=c:=by omega
  have hne1:¬ ((i:Int)=(i:Int)+1):=by omega
  have hw1:IntKind.i64.wrap ((i:Int)+1)=(i:Int)+1:=by rw [BC];omega
  have hb1:(0:Int)<=(i:Int)+1:=by omega
  have hb2:(i:Int)+1<=(xs.length:Int):=by omega
  have hb3:(i:Int)<=(i:Int)+1:=by omega
  have htn:((i:Int)+1).toNat=i+1:=by omega
  have hnl:i+(xs.length - (i+1))=xs.length - 1:=by omega
  have hnl2:xs.length - (xs.length - 1)=1:=by omega
  have hnl3:xs.length - 1<=xs.length:=by omega
  have hnl4:((xs.length - 1:Nat):Int)<=(xs.length:Int):=by omega
  have hnl5:¬ (c=xs.length - 1):=by omega
  have hnl6:xs.length<=c:=by omega
  have hi1:i+1<=xs.length:=by omega
  clear hW1 hg1 hdl hel hcs htk hg h hread;go_enter Tryz.func75,Tryz.ntmps75;go_wp2_with fail;go_region_law_o (refine Cd rfl (.tmp 22) (.tmp 25) 108 rfl 119 i0 3 hu hi0 hsz g 0 i c (by simp [BN,BS]) ⟨g,(i+1) * 3,none⟩ (xs.length - (i+1)) (c - (i+1)) ((xs.drop (i+1)).flatMap cC) (by simp [BN,BS] <;> omega) s1.out s4.out s2.out (by omega) s3.out ?_;rw [<- HW1.out,hnl]);go_wp2;go_ret;exact ⟨rfl,HO2.out,HGR.out⟩
theorem fK (xs:List By) (v:Ck) (w:BV) (h:Sl sC 1 w v xs) (hn:xs.length<=100000):
  Cr Bv 137 #[v] w fun e w'=>∃ v',e=.returned v'/\Own sC 1 9 w.heap.size w' v' xs/\Below w.heap.size w w':=by
 have hu:=Cx;have q:∀ (w:BV) (a:Option Addr) (n c n' c':Nat),(binOp .eql 22 (.slice a n c) (.slice none n' c')).run Bv w=.ok (.bool a.isNone) w:=fun w a n c n' c'=>CN w _ _ a n c n' c' hu
 have H:=Z (h.keep ((Below.refl _ w).alloc (BI _) (.cells #[] 9)));have HO:=Z (show Own sC 1 9 w.heap.size (w.alloc (.cells #[] 9)) (.slice (some ⟨w.heap.size,0,none⟩) 0 0) ([]:List By) from Cv w #[] 0 (BI _) (Nat.zero_le _) (by simp));have hsz:w.heap.size<=(w.alloc (.cells #[] 9)).heap.size:=by simp
 obtain ⟨A,c,rfl⟩:=Sl.zM h;rcases A with _ | ⟨b,off,sp⟩
 ·have hx:xs=[]:=by
   obtain ⟨A',c',he,h3⟩:=h;by_cases hne:xs=[]
   ·exact hne
   ·obtain ⟨b,off,rfl,_⟩:=h3 hne;injection he with e1;cases e1
  clear h H HO;go_enter Tryz.func137,Dc;go_wp2_with fail;go_ret;exact ⟨_,rfl,by rw [hx];exact Own.nil,Below.refl _ _⟩
 ·clear h;go_enter Tryz.func137,Dc;go_wp2_with (at_builtin;refine Z (al rfl rfl gT rfl rfl HO.out H.out (by unfold BL;simp;omega) (by simp;omega) hsz ?_) |>.out);intro v' w' h1 h2 h3;have HB:=Z (show Below w.heap.size w w' from ((Below.refl _ w).alloc (BI _) _).grown h2 hsz (by intro k hk;simp [Da] at hk;omega));have H1:=Z h1;clear h1 h2 h3;go_wp2_with fail;go_ret;exact ⟨v',rfl,H1.out,HB.out⟩
theorem nt (xs:List Int) (v:Ck) (w:BV) (h:Sl iC 1 w v xs) (hn:xs.length<=100000):
  Cr Bv 138 #[v] w fun e w'=>∃ v',e=.returned v'/\Own iC 1 3 w.heap.size w' v' xs/\Below w.heap.size w w':=by
 have hu:=Cj;have q:∀ (w:BV) (a:Option Addr) (n c n' c':Nat),(binOp .eql 37 (.slice a n c) (.slice none n' c')).run Bv w=.ok (.bool a.isNone) w:=fun w a n c n' c'=>CN w _ _ a n c n' c' hu
 have H:=Z (h.keep ((Below.refl _ w).alloc (BI _) (.cells #[] 3)));have HO:=Z (show Own iC 1 3 w.heap.size (w.alloc (.cells #[] 3)) (.slice (some ⟨w.heap.size,0,none⟩) 0 0) ([]:List Int) from Cv w #[] 0 (BI _) (Nat.zero_le _) (by simp));have hsz:w.heap.size<=(w.alloc (.cells #[] 3)).heap.size:=by simp
 obtain ⟨A,c,rfl⟩:=Sl.zM h;rcases A with _ | ⟨b,off,sp⟩
 ·have hx:xs=[]:=by
   obtain ⟨A',c',he,h3⟩:=h;by_cases hne:xs=[]
   ·exact hne
   ·obtain ⟨b,off,rfl,_⟩:=h3 hne;injection he with e1;cases e1
  clear h H HO;go_enter Tryz.func138,Dd;go_wp2_with fail;go_ret;exact ⟨_,rfl,by rw [hx];exact Own.nil,Below.refl _ _⟩
 ·clear h;go_enter Tryz.func138,Dd;go_wp2_with (at_builtin;refine Z (al rfl rfl bI rfl rfl HO.out H.out (by unfold BL;simp;omega) (by simp;omega) hsz ?_) |>.out);intro v' w' h1 h2 h3;have HB:=Z (show Below w.heap.size w w' from ((Below.refl _ w).alloc (BI _) _).grown h2 hsz (by intro k hk;simp [Da] at hk;omega));have H1:=Z h1;clear h1 h2 h3;go_wp2_with fail;go_ret;exact ⟨v',rfl,H1.out,HB.out⟩
theorem wF (n:Nat) (w:BV) (hn:n<=100000):
  Cr Bv 248 #[.slice none 0 0,.int .i64 n] w fun e w'=>∃ v',e=.returned v'/\Own cC 3 119 w.heap.size w' v' ([]:List Ce)/\Below w.heap.size w w':=by
 have hu:=Cu;have hui:=Cq;obtain ⟨_,⟨i0,z,hi0,hz0,hsz,hby,hzs⟩,_,_,_⟩:=iL;by_cases h0:n=0
 ·subst h0;go_enter Tryz.func248,De;go_wp2_with fail;go_ret;exact ⟨_,rfl,Own.nil,Below.refl _ _⟩
 ·have hrz:∀ ty,(Ct #[108,3] ty #[.slice none 0 0,.int .i64 n]).run Bv w=_:=fun ty=>CJ w 108 3 ty 119 i0 _ .i64 .i64 hu hui hi0 hz0 n (by omega) (by omega) (by omega) (by rw [hby];omega)
  have hGn:n<=BR w n 0 119:=CI w _ _ _;have hGm:BR w n 0 119<=BL:=Cg w n 0 119 (by unfold BL;omega);generalize BR w n 0 119=G at *;have HO:=Z (show Own cC 3 119 w.heap.size (w.drew.alloc (.cells (Bz z.cells n ++ Bz z.cells (G - n)) 119)) (.slice (some ⟨w.heap.size,0,none⟩) 0 G) ([]:List Ce) from
   Cv w.drew _ G (BI _) hGm (by rw [BT,BU,BU,hzs,<- Cm];congr 1;omega))
  have HB:=Z (show Below w.heap.size w (w.drew.alloc (.cells (Bz z.cells n ++ Bz z.cells (G - n)) 119)) from ((Below.refl _ w).drew).alloc (BI _) _);generalize w.drew.alloc (.cells (Bz z.cells n ++ Bz z.cells (G - n)) 119)=W1 at *;have h1:¬ ((n:Int)<0):=by omega
  have h2:(0:Int)<(n:Int):=by omega
  clear hi0 hz0 hsz hby hzs;go_enter Tryz.func248,De;go_wp2_with (at_builtin;refine BZ _ rfl _ _ _ _ rfl _ _ rfl rfl _ _ (hrz _) ?_);go_ret;exact ⟨_,rfl,HO.out,HB.out⟩
theorem xd (xs ys:List Ce) (v1 v2:Ck) (vb c:Nat) (tA:Cw) (w:BV) (h1:Sl cC 3 w v1 xs) (h2:Sl cC 3 w v2 ys) (hn:xs.length+ys.length<=100000) (hv:w.heap[vb]?=some (.cells #[v1,v2] tA (0,0))):
  Cr Bv 230 #[.slice (some ⟨vb,0,none⟩) 2 c] w fun e w'=>∃ v',e=.returned v'/\Own cC 3 119 w.heap.size w' v' (xs ++ ys)/\Below w.heap.size w w':=by
 have H1:=Z h1;have H2:=Z h2;have HV:=Z hv;obtain ⟨A1,c1,rfl⟩:=Sl.zM h1;obtain ⟨A2,c2,rfl⟩:=Sl.zM h2;have a0:=ae hv 0;have a1:=ae hv 1;have a4:=aj hv;have hw1:IntKind.i64.wrap ((xs.length:Int)+(ys.length:Int))=(xs.length:Int)+(ys.length:Int):=by rw [BC];omega
 have hw0:IntKind.i64.wrap ((xs.length:Int))=(xs.length:Int):=by rw [BC];omega
 have hp1:¬ ((xs.length:Int)+(ys.length:Int)<0):=by omega
 have hp0:¬ ((xs.length:Int)<0):=by omega
 clear h1 h2 hv;go_enter Tryz.func230,Tryz.ntmps230;go_wp2_with fail;refine CG 3 ?_;rw [BW];go_wp2_with fail;rw [BW];go_wp2_with fail;rw [BW];go_wp2_with fail;refine (wF (xs.length+ys.length) w (by omega)).mono ?_;rintro e w2 ⟨v2,rfl,ho,hb⟩;have HO:=Z ho;have HB:=Z hb;have K1:=Z (H1.out.keep hb);have K2:=Z (H2.out.keep hb);have HV2:=Z (af HV.out hb);have hs2:=hb.size;clear ho hb a0 a1 a4;have a0:=ae HV2.out 0;have a1:=ae HV2.out 1;have a4:=aj HV2.out;go_wp2_with fail;refine CG 3 ?_;rw [BW];go_wp2_with (at_builtin;refine Z (al rfl rfl iL rfl rfl HO.out K1.out (by unfold BL;simp;omega) (by simp;omega) hs2 ?_) |>.out);intro v3 w3 h1 h2 h3;have HO3:=Z h1;have HG3:=Z h2;have HB3:=Z (HB.out.grown h2 hs2 (fun k hk=>(HO.out.lt k hk).1));have K3:=Z (H2.out.keep HB3.out);have HV3:=Z (af HV.out HB3.out);have hs3:=HB3.out.size;clear h1 h2 h3 a0 a1 a4;have a0:=ae HV3.out 0;have a1:=ae HV3.out 1;have a4:=aj HV3.out;go_wp2_with fail;rw [BW];go_wp2_with (at_builtin;refine Z (al rfl rfl iL rfl rfl HO3.out K3.out (by unfold BL;omega) (by omega) hs3 ?_) |>.out);intro v4 w4 h1 h2 h3;have HO4:=Z h1;have HB4:=Z (HB3.out.grown h2 hs3 (fun k hk=>(HO3.out.lt k hk).1));clear h1 h2 h3;go_wp2_with fail;rw [BW];go_wp2_with fail;go_ret;exact ⟨v4,rfl,HO4.out,HB4.out⟩
theorem wE (n:Nat) (w:BV) (hn:n<=100000):
  Cr Bv 249 #[.slice none 0 0,.int .i64 n] w fun e w'=>∃ v',e=.returned v'/\Own iC 1 3 w.heap.size w' v' ([]:List Int)/\Below w.heap.size w w':=by
 have hu:=Cj;have hui:=Cq;obtain ⟨_,⟨i0,z,hi0,hz0,hsz,hby,hzs⟩,_,_,_⟩:=bI;by_cases h0:n=0
 ·subst h0;go_enter Tryz.func249,Df;go_wp2_with fail;go_ret;exact ⟨_,rfl,Own.nil,Below.refl _ _⟩
 ·have hrz:∀ ty,(Ct #[37,3] ty #[.slice none 0 0,.int .i64 n]).run Bv w=_:=fun ty=>CJ w 37 3 ty 3 i0 _ .i64 .i64 hu hui hi0 hz0 n (by omega) (by omega) (by omega) (by rw [hby];omega)
  have hGn:n<=BR w n 0 3:=CI w _ _ _;have hGm:BR w n 0 3<=BL:=Cg w n 0 3 (by unfold BL;omega);generalize BR w n 0 3=G at *;have HO:=Z (show Own iC 1 3 w.heap.size (w.drew.alloc (.cells (Bz z.cells n ++ Bz z.cells (G - n)) 3)) (.slice (some ⟨w.heap.size,0,none⟩) 0 G) ([]:List Int) from
   Cv w.drew _ G (BI _) hGm (by rw [BT,BU,BU,hzs,<- Cm];congr 1;omega))
  have HB:=Z (show Below w.heap.size w (w.drew.alloc (.cells (Bz z.cells n ++ Bz z.cells (G - n)) 3)) from ((Below.refl _ w).drew).alloc (BI _) _);generalize w.drew.alloc (.cells (Bz z.cells n ++ Bz z.cells (G - n)) 3)=W1 at *;have h1:¬ ((n:Int)<0):=by omega
  have h2:(0:Int)<(n:Int):=by omega
  clear hi0 hz0 hsz hby hzs;go_enter Tryz.func249,Df;go_wp2_with (at_builtin;refine BZ _ rfl _ _ _ _ rfl _ _ rfl rfl _ _ (hrz _) ?_);go_ret;exact ⟨_,rfl,HO.out,HB.out⟩
theorem xb (xs ys:List Int) (v1 v2:Ck) (vb c:Nat) (tA:Cw) (w:BV) (h1:Sl iC 1 w v1 xs) (h2:Sl iC 1 w v2 ys) (hn:xs.length+ys.length<=100000) (hv:w.heap[vb]?=some (.cells #[v1,v2] tA (0,0))):
  Cr Bv 231 #[.slice (some ⟨vb,0,none⟩) 2 c] w fun e w'=>∃ v',e=.returned v'/\Own iC 1 3 w.heap.size w' v' (xs ++ ys)/\Below w.heap.size w w':=by
 have H1:=Z h1;have H2:=Z h2;have HV:=Z hv;obtain ⟨A1,c1,rfl⟩:=Sl.zM h1;obtain ⟨A2,c2,rfl⟩:=Sl.zM h2;have a0:=ae hv 0;have a1:=ae hv 1;have a4:=aj hv;have hw1:IntKind.i64.wrap ((xs.length:Int)+(ys.length:Int))=(xs.length:Int)+(ys.length:Int):=by rw [BC];omega
 have hw0:IntKind.i64.wrap ((xs.length:Int))=(xs.length:Int):=by rw [BC];omega
 have hp1:¬ ((xs.length:Int)+(ys.length:Int)<0):=by omega
 have hp0:¬ ((xs.length:Int)<0):=by omega
 clear h1 h2 hv;go_enter Tryz.func231,Tryz.ntmps231;go_wp2_with fail;refine CG 3 ?_;rw [BW];go_wp2_with fail;rw [BW];go_wp2_with fail;rw [BW];go_wp2_with fail;refine (wE (xs.length+ys.length) w (by omega)).mono ?_;rintro e w2 ⟨v2,rfl,ho,hb⟩;have HO:=Z ho;have HB:=Z hb;have K1:=Z (H1.out.keep hb);have K2:=Z (H2.out.keep hb);have HV2:=Z (af HV.out hb);have hs2:=hb.size;clear ho hb a0 a1 a4;have a0:=ae HV2.out 0;have a1:=ae HV2.out 1;have a4:=aj HV2.out;go_wp2_with fail;refine CG 3 ?_;rw [BW];go_wp2_with (at_builtin;refine Z (al rfl rfl bI rfl rfl HO.out K1.out (by unfold BL;simp;omega) (by simp;omega) hs2 ?_) |>.out);intro v3 w3 h1 h2 h3;have HO3:=Z h1;have HG3:=Z h2;have HB3:=Z (HB.out.grown h2 hs2 (fun k hk=>(HO.out.lt k hk).1));have K3:=Z (H2.out.keep HB3.out);have HV3:=Z (af HV.out HB3.out);have hs3:=HB3.out.size;clear h1 h2 h3 a0 a1 a4;have a0:=ae HV3.out 0;have a1:=ae HV3.out 1;have a4:=aj HV3.out;go_wp2_with fail;rw [BW];go_wp2_with (at_builtin;refine Z (al rfl rfl bI rfl rfl HO3.out K3.out (by unfold BL;omega) (by omega) hs3 ?_) |>.out);intro v4 w4 h1 h2 h3;have HO4:=Z h1;have HB4:=Z (HB3.out.grown h2 hs3 (fun k hk=>(HO3.out.lt k hk).1));clear h1 h2 h3;go_wp2_with fail;rw [BW];go_wp2_with fail;go_ret;exact ⟨v4,rfl,HO4.out,HB4.out⟩
def MkP (e:Ending):Ans Int->Prop
 | .ok n=>e=.returned (.tuple #[.int .i64 n,.int .i64 0])
 | .err x=>e=.returned (.tuple #[.int .i64 0,.int .i64 x])
def ndL:Ck:=.agg #[.bool true,.slice none 0 0,.slice none 0 0,.slice none 0 0]
theorem ze (w:BV):NdV w ndL ⟨true,[],[],[]⟩:=⟨_,_,_,rfl,Sl.nil,Sl.nil,Sl.nil⟩
theorem wh (s:Sf):makeT.run s=if br s=0 then (match ((aE (bR s) ⟨true,[],[],[]⟩).run (aJ s)).2 with | .ok _=>(((aE (bR s) ⟨true,[],[],[]⟩).run (aJ s)).1,.ok (bR s)) | .err x=>(((aE (bR s) ⟨true,[],[],[]⟩).run (aJ s)).1,.err x)) else (aJ s,.err (br s)):=by unfold makeT;simp only [Pro.run,run_bind];cases ((aE (bR s) ⟨true,[],[],[]⟩).run (aJ s)).2 <;> rfl
theorem cQ (a:Int) (n:Nd):(aE a n).NZ:=by
 unfold aE
 split
 ·exact show (30:Int)≠0 by decide
 ·trivial
theorem wg (gs gm:Nat) (s:Sf) (w:BV) (hS:ShIs w gs gm s):
  Cr Bv 24 #[co gs] w fun e w'=>MkP e (makeT.run s).2/\ShIs w' gs gm (makeT.run s).1/\Ch (fun k=>k=gs\/k=gm) w w':=by
 have HRT:=Z (wh s);have HS:=Z hS;have hnz:=Pro.NZ.run (aE (bR s) ⟨true,[],[],[]⟩) (aJ s);clear hS;unfold co;go_enter Tryz.func24,Tryz.ntmps24;go_wp2_with fail;refine (eO gs gm s w HS.out).mono ?_;rintro e w1 ⟨rfl,hs,hc⟩;have HS1:=Z hs;have HC1:=Z hc;clear hs hc;by_cases hbe:br s=0
 ·have HR:=Z (HRT.out.trans (if_pos hbe));rw [hbe];go_wp2_with fail;refine (bE (bR s) ⟨true,[],[],[]⟩ _ gs gm (aJ s) w1 HS1.out (ze w1) ⟨by simp,by simp,by simp,by simp,by simp⟩).mono ?_;rintro e w2 ⟨rfl,hs,hc⟩;have HS2:=Z hs;have HC2:=Z (HC1.out.trans hc);clear hs hc;obtain ⟨⟨s2,a⟩,hx⟩:∃ x,(aE (bR s) ⟨true,[],[],[]⟩).run (aJ s)=x:=⟨_,rfl⟩;rw [hx] at HS2 HR hnz;cases a with
  | ok u=> simp only [dW];go_wp2_with fail;go_ret2;rw [HR.out];exact ⟨rfl,HS2.out,HC2.out⟩
  | err x=>
    have hx0:¬ x=0:=hnz x (cQ _ _) rfl;have hx1:(x == 0)=false:=by simpa using hx0
    simp only [dW];go_wp2_with fail;go_ret2;rw [HR.out];exact ⟨rfl,HS2.out,HC2.out⟩
 ·have HR:=Z (HRT.out.trans (if_neg hbe));generalize br s=be at *;have hbe2:(be == 0)=false:=by simpa using hbe
  go_wp2_with fail;go_ret2;rw [HR.out];exact ⟨rfl,HS1.out,HC1.out⟩
def zJ (e:Ending):Ans (Option By)->Prop
 | .ok (some v)=>e=.returned (.tuple #[.string (ap v),.bool true,.int .i64 0])
 | .ok none=>e=.returned (.tuple #[.string ⟨#[]⟩,.bool false,.int .i64 0])
 | .err x=>e=.returned (.tuple #[.string ⟨#[]⟩,.bool false,.int .i64 x])
theorem cu {a:Int} {s:Sf}:∀ x,((bl a).run s).2=.err x->x≠0:=fun x=>Pro.NZ.run _ s x (fF a)
theorem jW {c:Ce} {s:Sf}:∀ x,((bB c).run s).2=.err x->x≠0:=fun x=>Pro.NZ.run _ s x (jX c)
theorem xY (root:Int) (k:By) (gs gm:Nat) (s:Sf) (w:BV) (hS:ShIs w gs gm s):
  Cr Bv 22 #[co gs,.int .i64 root,.string (ap k)] w fun e w'=>zJ e ((ex 20 root k).run s).2/\ShIs w' gs gm ((ex 20 root k).run s).1/\Ch (fun k=>k=gs\/k=gm) w w':=by
 have HS:=Z hS;clear hS;unfold co;go_enter Tryz.func22,Tryz.ntmps22;go_wp2_with fail;go_loopw [9,16] (fun av iv wr=>∃ (f:Nat) (at_:Int) (s1:Sf),f<=20/\av=.int .i64 at_/\iv=.int .i64 (20 - f:Int)/\(ex 20 root k).run s=(ex f at_ k).run s1/\ShIs wr gs gm s1/\Ch (fun k=>k=gs\/k=gm) w wr) (fun _ iv _=>20 - (intOf iv).toNat)
 case atStart=>exact ⟨20,root,s,BI _,rfl,rfl,rfl,HS.out,Ch.refl _ _⟩
 case round=>
  obtain ⟨f,at_,s1,hf,rfl,rfl,hr,hs,hc⟩:=hrel;have HR:=Z hr;have HS1:=Z hs;have HC1:=Z hc;clear hr hs hc;cases f with
  | zero=> have HV:=Z (show (ex 20 root k).run s=(s1,.err 30) from HR.out);go_wp2_with fail;go_ret3;rw [HV.out];exact ⟨rfl,HS1.out,HC1.out⟩
  | succ f=>
    have hi:(20 - ((f+1:Nat):Int))<20:=by omega
    have hi0:0<=(20 - ((f+1:Nat):Int)):=by omega
    have HN:=Z (show 20 - ((f+1:Nat):Int)+1=20 - (f:Int) by omega);have HRF:=Z (show (ex 20 root k).run s=((bl at_).bind fun n=>if n.leaf then oC n k else ex f (n.kids.getD (cK n k) 0) k).run s1 from HR.out);generalize 20 - ((f+1:Nat):Int)=ii at *;go_wp2_with fail;refine (dE at_ gs gm s1 wr HS1.out).mono ?_;rintro e w2 ⟨hp,hs,hc⟩;have hrz:=cu (a:=at_) (s:=s1);obtain ⟨⟨s2,a⟩,hx⟩:∃ x,(bl at_).run s1=x:=⟨_,rfl⟩;rw [hx] at hp hs hrz;have HS2:=Z hs;have HC2:=Z (HC1.out.trans hc);have HX:=Z hx;have hszc:=hc.size;clear hs hc hx;cases a with
    | err x=>
      obtain rfl:=hp;have hx0:¬ x=0:=hrz x rfl;have hx1:(x == 0)=false:=by simpa using hx0
      have HV:=Z (show (ex 20 root k).run s=(s2,.err x) from HRF.out.trans (aq HX.out));have HS3:=Z (HS2.out.ch (S:=fun _=>False) (Ch.alloc (Ch.refl _ w2) (ar Nd.zero (.slice none 0 0) (.slice none 0 0) (.slice none 0 0))) id id);have HC3:=Z (Ch.alloc HC2.out (ar Nd.zero (.slice none 0 0) (.slice none 0 0) (.slice none 0 0)));simp only [qJ];go_wp2_with fail;go_ret3;rw [HV.out];exact ⟨rfl,HS3.out,HC3.out⟩
    | ok n=>
      obtain ⟨v,rfl,vk,vc,vd,rfl,h1,h2,h3,h4⟩:=hp;obtain ⟨hg,hsm⟩:=en HX.out;have HGD:=Z hg;have HSM:=Z hsm;have HV:=Z (show (ex 20 root k).run s=(if n.leaf then oC n k else ex f (n.kids.getD (cK n k) 0) k).run s2 from HRF.out.trans (ah HX.out));obtain ⟨A1,c1,rfl⟩:=Sl.zM (h1.sl aG);obtain ⟨A2,c2,rfl⟩:=Sl.zM (h2.sl bx);obtain ⟨A3,c3,rfl⟩:=Sl.zM (h3.sl ax);have HN2:=Z (show NdS w2 n (.slice A1 n.keys.length c1) (.slice A2 n.cells.length c2) (.slice A3 n.kids.length c3) from ⟨h1.sl aG,h2.sl bx,h3.sl ax⟩);clear h1 h2 h3 h4 hg hsm;have HX3:=Z (ag (w0:=w2) (g:=w2.heap.size) (o:=ar n (.slice A1 n.keys.length c1) (.slice A2 n.cells.length c2) (.slice A3 n.kids.length c3)) rfl);have HS3:=Z (HS2.out.ch (S:=fun _=>False) (Ch.alloc (Ch.refl _ w2) (ar n (.slice A1 n.keys.length c1) (.slice A2 n.cells.length c2) (.slice A3 n.kids.length c3))) id id);have HC3:=Z (Ch.alloc HC2.out (ar n (.slice A1 n.keys.length c1) (.slice A2 n.cells.length c2) (.slice A3 n.kids.length c3)));have HN3:=Z (HN2.out.keep ((Below.refl _ w2).alloc (BI _) (ar n (.slice A1 n.keys.length c1) (.slice A2 n.cells.length c2) (.slice A3 n.kids.length c3))));have hgs:=aj HS3.out.blk;go_upto_region 5 with fail
      generalize hw1:w2.alloc (.cells #[.bool n.leaf,.slice A1 n.keys.length c1,.slice A2 n.cells.length c2,.slice A3 n.kids.length c3] 110)=w3 at *;have hw2:w2.alloc (ar n (.slice A1 n.keys.length c1) (.slice A2 n.cells.length c2) (.slice A3 n.kids.length c3))=w3:=hw1;rw [hw2] at HX3 HS3 HC3 HN3 hgs;clear hw1 hw2;obtain ⟨a0,a1,a2,a3,a4⟩:=aa HX3.out;generalize w2.heap.size=gn at *;cases hl:n.leaf
      ·rw [hl] at a0 HV;have HV1:=Z (show (ex 20 root k).run s=(ex f (n.kids.getD (cK n k) 0) k).run s2 from HV.out);obtain ⟨i1,i2,i3,i4,i5,i6⟩:=aQ HGD.out hl;have hkn:cK n k<n.kids.length:=by
        have h1:=(List.takeWhile_sublist (l:=n.keys) (p:=fun x=>bM x k)).length_le;unfold cK
        split
        ·rename_i hi
         have:=(fU hi).1;omega
        ·have:cj n.keys k<=n.keys.length:=h1;omega
       obtain ⟨b,off,c',he,hbl,hcells⟩:=(show Sl iC 1 w3 (.slice A3 n.kids.length c3) n.kids from HN3.out.d).zQ hkn;injection he with he1 he2 he3
       subst he1 he3;have e0:w3.cell? ⟨b,off+cK n k,none⟩=some (.int .i64 n.kids[cK n k]):=by simpa [iC] using hcells 0 _ rfl
       have HKD:=Z (show n.kids.getD (cK n k) 0=n.kids[cK n k] by rw [CH,CK hkn];rfl);rw [HKD.out] at HV1;have hk0:(0:Int)<=(cK n k:Int):=by omega
       have hk1:(cK n k:Int)<(n.kids.length:Int):=by omega
       have HKA:=Z (fun (y:Up w3)=>pN n k _ y.w ⟨_,_,_,rfl,HN3.out.keep y.h⟩ (HSM.out.bd (by decide)) HGD.out);rw [hl] at HKA;clear i1 i2 i3 i4 i5 i6 hcells;generalize n.kids[cK n k]=kd at *;go_wp2_with fail;have v1:=bj a1 a4;have v2:=bj a2 a4;have v3:=bj a3 a4;have v0:=bj a0 a4;have ve:=bj e0 hbl;clear a0 a1 a2 a3 e0;refine aM (by kernel_rfl) (by kernel_rfl) ?_
       repeat (go_big_quiet_step (first | (go_at_call 59;exact eF (HKA.out _))))
       refine wpQuiet_nil ?_;rintro w' ⟨⟨w4,hb4⟩,rfl⟩;have HS4:=Z (HS3.out.ch (S:=fun _=>False) (Ch.zK hb4) id id);have HC4:=Z (HC3.out.trans (Ch.zK hb4));clear hb4 v0 v1 v2 v3 ve a4;go_wp2_with fail;go_roundw
       case rel=>exact ⟨f,kd,s2,by omega,rfl,by rw [HN.out],HV1.out,HS4.out,HC4.out⟩
       case measure=>simp [intOf];omega
      ·rw [hl] at a0 HV;have HV1:=Z (show (ex 20 root k).run s=(oC n k).run s2 from HV.out);have HCL:=Z (cD HGD.out hl).2.1;have HF:=Z (kw n k _ w3 ⟨_,_,_,rfl,HN3.out⟩ (HSM.out.bd (by decide)) HGD.out);rw [hl] at HF;go_wp2_with fail;refine HF.out.mono ?_;rintro e w4 ⟨rfl,hb⟩;have HX4:=Z (af HX3.out hb);have HS4:=Z (HS3.out.ch (S:=fun _=>False) (Ch.zK hb) id id);have HC4:=Z (HC3.out.trans (Ch.zK hb));have HN4:=Z (HN3.out.keep hb);clear hb a0 a1 a2 a3 a4;obtain ⟨a0,a1,a2,a3,a4⟩:=aa HX4.out;rw [hl] at a0;cases his:jT n.keys k
       ·have HV2:=Z (show (ex 20 root k).run s=(s2,.ok none) by rw [HV1.out];unfold oC;rw [his];rfl);go_wp2_with fail;go_ret3;rw [HV2.out];exact ⟨rfl,HS4.out,HC4.out⟩
       ·have hlt:cj n.keys k<n.cells.length:=by have:=(fU his).1;have:=HCL.out;omega
        have HV2:=Z (show (ex 20 root k).run s=((bB n.cells[cj n.keys k]).bind fun r=>.pure (some r.1)).run s2 by
         rw [HV1.out];unfold oC;rw [his,if_pos rfl,CH,CK hlt];rfl)
        obtain ⟨b,off,he,hbl,hn',e0,e1,e2⟩:=(show Sl cC 3 w4 (.slice A2 n.cells.length c2) n.cells from HN4.out.c).zT hlt;subst he;have hdl:=HSM.out.cl _ (List.getElem_mem hlt);have hk0:(0:Int)<=(cj n.keys k:Int):=by omega
        have hk1:(cj n.keys k:Int)<(n.cells.length:Int):=by omega
        generalize n.cells[cj n.keys k]=c at *;generalize cj n.keys k=lb at *;have HCV:=Z (sH c gs gm s2 w4 HS4.out (by omega));unfold kF co at HCV;go_wp2_with fail;refine HCV.out.mono ?_;rintro e w5 ⟨hp,hs,hc⟩;have HS5:=Z hs;have HC5:=Z (HC4.out.trans hc);clear hs hc a0 a1 a2 a3 a4 e0 e1 e2;have hwz:=jW (c:=c) (s:=s2);obtain ⟨⟨s3,a⟩,hx⟩:∃ x,(bB c).run s2=x:=⟨_,rfl⟩;rw [hx] at HS5 hp hwz;cases a with
        | ok r=> obtain ⟨d,ps⟩:=r;obtain rfl:=hp;have HV3:=Z (show (ex 20 root k).run s=(s3,.ok (some d)) from HV2.out.trans (ah hx));go_wp2_with fail;go_ret3;rw [HV3.out];exact ⟨rfl,HS5.out,HC5.out⟩
        | err x=>
          obtain rfl:=hp;have hx0:¬ x=0:=hwz x rfl;have hx1:(x == 0)=false:=by simpa using hx0
          have HV3:=Z (show (ex 20 root k).run s=(s3,.err x) from HV2.out.trans (aq hx));go_wp2_with fail;go_ret3;rw [HV3.out];exact ⟨rfl,HS5.out,HC5.out⟩
end Go.Proofs.YtknioodagnjchaaGreatDoor
namespace Go.Proofs.YtknioodagnjchaaGreatDoor
open Go renaming Value->Bt,World->Bv
open Go.RowKit
structure SlF {α:Type} (f:α->List Bt) (size B:Nat) (w:Bv) (v:Bt) (xs:List α):Prop where
 sl:Sl f size w v xs
 cap:∃ A c,v=.slice A xs.length c/\xs.length<=c/\c<=maxLen
 far:∀ k,v.ownBlock=some k->B<=k
section
variable {α:Type} {f:α->List Bt} {size B B':Nat} {e:TypeId} {w w':Bv} {v:Bt} {xs:List α} {S:Nat->Prop}
theorem Own.zN (h:Own f size e B w v xs) (hl:∀ x,(f x).length=size):SlF f size B w v xs:=by
 refine ⟨h.sl hl,?_,fun k hk=>(h.lt k hk).1⟩;rcases h.2 with ⟨rfl,h0⟩ | ⟨g,cap,cur,rfl,_,_,hn,hm,_⟩
 ·exact ⟨none,0,by rw [h0],by omega,Nat.zero_le _⟩
 ·exact ⟨_,cap,rfl,hn,hm⟩
theorem SlF.nil:SlF f size B w (.slice none 0 0) ([]:List α):=⟨Sl.nil,⟨none,0,rfl,Nat.le_refl _,Nat.zero_le _⟩,fun k h=>by cases h⟩
theorem SlF.keep (h:SlF f size B w v xs) (hb:Below w.heap.size w w'):SlF f size B w' v xs:=⟨h.sl.keep hb,h.cap,h.far⟩
theorem SlF.ch (h:SlF f size B w v xs) (hc:Ch S w w') (hs:∀ k,B<=k->¬ S k):SlF f size B w' v xs:=⟨de h.sl hc fun k hk=>hs k (h.far k hk),h.cap,h.far⟩
theorem SlF.Az (h:SlF f size B w v xs) (hc:Ch S w w') (hs:∀ k,v.ownBlock=some k->¬ S k):SlF f size B w' v xs:=⟨de h.sl hc hs,h.cap,h.far⟩
theorem SlF.mono (h:SlF f size B w v xs) (hb:B'<=B):SlF f size B' w v xs:=⟨h.sl,h.cap,fun k hk=>Nat.le_trans hb (h.far k hk)⟩
theorem SlF.form (h:SlF f size B w v xs) (hne:xs≠[]):∃ b off c,v=.slice (some ⟨b,off,none⟩) xs.length c/\xs.length<=c/\c<=maxLen/\B<=b/\b<w.heap.size:=by
 obtain ⟨A,c,rfl,h1,h2⟩:=h.cap;obtain ⟨A',c',he,h3⟩:=h.sl;obtain ⟨b,off,rfl,hb,_⟩:=h3 hne;injection he with e1 e2 e3
 subst e1;exact ⟨b,off,c,rfl,h1,h2,h.far b rfl,hb⟩
theorem SlF.take {A:Option Addr} {n c:Nat} (h:SlF f size B w (.slice A n c) xs) {i:Nat} (hi:i<=xs.length):SlF f size B w (.slice A i i) (xs.take i):=by
 have hl:(xs.take i).length=i:=by rw [List.length_take];omega
 obtain ⟨A',c',he,h1,h2⟩:=h.cap;refine ⟨?_,⟨A,i,by rw [hl],by omega,by omega⟩,fun k hk=>h.far k (by cases A <;> exact hk)⟩;obtain ⟨A2,c2,he2,h3⟩:=h.sl;injection he2 with e1 e2 e3
 subst e1;refine ⟨A,i,by rw [hl],fun hne=>?_⟩;have:xs≠[]:=by rintro rfl;simp at hne
 obtain ⟨b,off,rfl,hb,hc⟩:=h3 this;refine ⟨b,off,rfl,hb,fun j x hj=>hc j x ?_⟩;rw [List.getElem?_take] at hj
 split at hj
 ·exact hj
 ·cases hj
theorem SlF.drop {b off n c:Nat} (h:SlF f size B w (.slice (some ⟨b,off,none⟩) n c) xs) {i:Nat} (hi:i<=xs.length) {o:Nat} (ho:i<xs.length->o=off+i * size):SlF f size B w (.slice (some ⟨b,o,none⟩) (n - i) (c - i)) (xs.drop i):=by
 obtain ⟨A',c',he,h1,h2⟩:=h.cap;injection he with e1 e2 e3
 subst e2 e3;have hl:(xs.drop i).length=xs.length - i:=List.length_drop ..;refine ⟨?_,⟨_,_,by rw [hl],by omega,by omega⟩,fun k hk=>h.far k hk⟩;refine ⟨_,_,by rw [hl],fun hne=>?_⟩;have hlt:i<xs.length:=by
  rcases Nat.lt_or_ge i xs.length with h | h
  ·exact h
  ·exact absurd (List.drop_eq_nil_of_le h) hne
 obtain ⟨A2,c2,he2,h3⟩:=h.sl;injection he2 with e1 e2 e3
 obtain ⟨b',off',e4,hb,hc⟩:=h3 (by rintro rfl;simp at hlt);rw [e4] at e1;injection e1 with e1
 injection e1 with e1 e2
 subst e1 e2;refine ⟨b,o,rfl,hb,fun j x hj t u hu=>?_⟩;rw [List.getElem?_drop] at hj;have:=hc (i+j) x hj t u hu;rw [ho hlt,show off+i * size+j * size+t=off+(i+j) * size+t by rw [Nat.add_mul];omega];exact this
end
def NdF (B:Nat) (w:Bv) (v:Bt) (n:Nd):Prop:=∃ vk vc vd,v=.agg #[.bool n.leaf,vk,vc,vd]/\SlF sC 1 B w vk n.keys/\SlF cC 3 B w vc n.cells/\SlF iC 1 B w vd n.kids
section
variable {B B':Nat} {w w':Bv} {v:Bt} {n:Nd} {S:Nat->Prop}
theorem NdO.f (h:NdO B w v n):NdF B w v n:=by obtain ⟨vk,vc,vd,rfl,h1,h2,h3,_⟩:=h;exact ⟨vk,vc,vd,rfl,h1.zN aG,h2.zN bx,h3.zN ax⟩
theorem NdF.val (h:NdF B w v n):NdV w v n:=by obtain ⟨vk,vc,vd,rfl,h1,h2,h3⟩:=h;exact ⟨vk,vc,vd,rfl,h1.sl,h2.sl,h3.sl⟩
theorem NdF.keep (h:NdF B w v n) (hb:Below w.heap.size w w'):NdF B w' v n:=by obtain ⟨vk,vc,vd,rfl,h1,h2,h3⟩:=h;exact ⟨vk,vc,vd,rfl,h1.keep hb,h2.keep hb,h3.keep hb⟩
theorem NdF.ch (h:NdF B w v n) (hc:Ch S w w') (hs:∀ k,B<=k->¬ S k):NdF B w' v n:=by obtain ⟨vk,vc,vd,rfl,h1,h2,h3⟩:=h;exact ⟨vk,vc,vd,rfl,h1.ch hc hs,h2.ch hc hs,h3.ch hc hs⟩
theorem NdF.mono (h:NdF B w v n) (hb:B'<=B):NdF B' w v n:=by obtain ⟨vk,vc,vd,rfl,h1,h2,h3⟩:=h;exact ⟨vk,vc,vd,rfl,h1.mono hb,h2.mono hb,h3.mono hb⟩
theorem NdF.zero:NdF B w qJ Nd.zero:=⟨_,_,_,rfl,SlF.nil,SlF.nil,SlF.nil⟩
end
structure Nd.Fit (n:Nd):Prop where
 c:n.leaf=true->n.cells.length=n.keys.length/\n.kids=[]
 d:n.leaf=false->n.kids.length=n.keys.length+1/\n.cells=[]
theorem dw {n:Nd} (h:aD n=true):n.Fit:=⟨fun hl=>let ⟨_,h2,h3,_⟩:=cD h hl;⟨h2,h3⟩,fun hl=>let ⟨_,_,h3,h4,_⟩:=aQ h hl;⟨h3,h4⟩⟩
theorem Sl.Au {w:Bv} {ks:List By} {b off n c:Nat} (h:Sl sC 1 w (.slice (some ⟨b,off,none⟩) n c) ks) {k:Nat} (hk:k<ks.length):w.cell? ⟨b,off+k,none⟩=some (.string (ap ks[k])):=by
 have:=h.key hk;obtain ⟨b',off',e,_,_,h4⟩:=this;injection e with e
 injection e with e1 e2
 subst e1 e2;exact h4
theorem sS {x:Bt} {a b c a' b' c':Bt} (h:#[x,a,b,c]=#[x,a',b',c']):a=a'/\b=b'/\c=c':=by simpa using h
def SubN (v v':Bt) (n n':Nd):Prop:=∀ B w,NdF B w v n->NdF B w v' n'
theorem SubN.mk {lf:Bool} {vk vc vd v':Bt} {n n':Nd} (h:∀ B w,SlF sC 1 B w vk n.keys->SlF cC 3 B w vc n.cells->SlF iC 1 B w vd n.kids->NdF B w v' n'):SubN (.agg #[.bool lf,vk,vc,vd]) v' n n':=fun B w hh=>by
 obtain ⟨vk',vc',vd',ee,i1,i2,i3⟩:=hh;injection ee with ee
 have e:lf=n.leaf/\vk=vk'/\vc=vc'/\vd=vd':=by simpa using ee
 obtain ⟨-,rfl,rfl,rfl⟩:=e;exact h B w i1 i2 i3
theorem fT {w:Bv} {g:Nat} {n:Nd} {vk vc vd:Bt} (h:w.heap[g]?=some (ar n vk vc vd)) (l:Bool) (a b c:Bt):((((w.setCell ⟨g,0,none⟩ (.bool l)).setCell ⟨g,1,none⟩ a).setCell ⟨g,2,none⟩ b).setCell ⟨g,3,none⟩ c).heap[g]?=some (ar ⟨l,[],[],[]⟩ a b c):=
 ai (ai (ai (ai h 0 _) 1 _) 2 _) 3 _
theorem bT (w:Bv) (g:Nat) (l a b c:Bt):Ch (fun k=>k=g) w ((((w.setCell ⟨g,0,none⟩ l).setCell ⟨g,1,none⟩ a).setCell ⟨g,2,none⟩ b).setCell ⟨g,3,none⟩ c):=
 ((((Ch.refl (fun k=>k=g) w).setCell (p:=⟨g,0,none⟩) rfl l).setCell (p:=⟨g,1,none⟩) rfl a).setCell (p:=⟨g,2,none⟩) rfl b).setCell (p:=⟨g,3,none⟩) rfl c
theorem uc {w:Bv} {g g2:Nat} {n n2:Nd} {vk vc vd vk2 vc2 vd2:Bt} (h:w.heap[g]?=some (ar n vk vc vd)) (h2:w.heap[g2]?=some (ar n2 vk2 vc2 vd2)) (hne:g≠g2) (l l2:Bool) (a b c a2 b2 c2:Bt):
  ∃ W,W=((((((((w.setCell ⟨g,0,none⟩ (.bool l)).setCell ⟨g,1,none⟩ a).setCell ⟨g,2,none⟩ b).setCell ⟨g,3,none⟩ c).setCell ⟨g2,0,none⟩ (.bool l2)).setCell ⟨g2,1,none⟩ a2).setCell ⟨g2,2,none⟩ b2).setCell ⟨g2,3,none⟩ c2)/\
    W.heap[g]?=some (ar ⟨l,[],[],[]⟩ a b c)/\W.heap[g2]?=some (ar ⟨l2,[],[],[]⟩ a2 b2 c2)/\Ch (fun k=>k=g\/k=g2) w W:=by
 have k1:=fT h l a b c;have k2:=bT w g (.bool l) a b c;have k3:=k2.keep h2 (fun e=>hne e.symm);have k4:=fT k3 l2 a2 b2 c2;have k5:=bT _ g2 (.bool l2) a2 b2 c2 |>.keep k1 hne;exact ⟨_,rfl,k5,k4,(k2.mono fun _ _ e=>.inl e).trans ((bT _ g2 (.bool l2) a2 b2 c2).mono fun _ _ e=>.inr e)⟩
end Go.Proofs.YtknioodagnjchaaGreatDoor
