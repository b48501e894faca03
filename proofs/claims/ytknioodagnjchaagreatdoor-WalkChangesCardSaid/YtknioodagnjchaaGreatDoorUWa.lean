/- walk: read, none, at; what its closures tell of a node. walk: pair; find for the three looks. walk: find, From. walk: find, To. walk: find, Last. walk: find at all levels; From, To, Last. -/
import Derived.Test.YtknioodagnjchaaGreatDoorUCb
import Derived.Test.YtknioodagnjchaaGreatDoorUPl
import Derived.Test.YtknioodagnjchaaGreatDoorUTCut0
import Derived.Deep.CutRange
import Derived.Deep.RegionHeld3
set_option maxRecDepth 100000
set_option maxHeartbeats 8000000
namespace Go.Proofs.YtknioodagnjchaaGreatDoor
open Go.Lib (hid)
open Go.RowKit
theorem jp (at_:Int) (gs gm:Nat) (s:Sf) (w:World) (hS:ShIs w gs gm s):
  Calls Tryz.prog 130 #[bt gs,.int .i64 at_] w fun e w'=>RdP w.heap.size w' e ((aM at_).run s).2∧ShIs w' gs gm ((aM at_).run s).1∧Ch (fun k=>k=gs∨k=gm) w w':=by
 have HA:=hid (hS.ch (S:=fun _=>False) (Ch.alloc (Ch.refl _ w) (ar Nd.zero (.slice none 0 0) (.slice none 0 0) (.slice none 0 0))) id id);have HZ:=hid (ag (w0:=w) (g:=w.heap.size) (o:=ar Nd.zero (.slice none 0 0) (.slice none 0 0) (.slice none 0 0)) rfl);have HC:=hid (Ch.alloc (Ch.refl (fun k=>k=gs∨k=gm) w) (ar Nd.zero (.slice none 0 0) (.slice none 0 0) (.slice none 0 0)));have hs1:w.heap.size<(w.alloc (ar Nd.zero (.slice none 0 0) (.slice none 0 0) (.slice none 0 0))).heap.size:=by simp
 have hgs:=aj hS.blk;have hgm:=hS.book.lt;have hl232:=hS.ok.l at_
 have HRT:=hid (show (aM at_).run s=if bU s at_=0 then (match dv (s.B at_) with | none=>(ba s,.err 30) | some n=>(ba s,.ok n)) else (ba s,.err (bU s at_)) by
  unfold aM;simp only [Pro.run];cases dv (s.B at_) <;> rfl)
 clear hS;unfold bt;go_enter Tryz.func130,Tryz.ntmps130;go_upto_region 1 with fail
 generalize hw1:w.alloc (.cells #[.bool false,.slice none 0 0,.slice none 0 0,.slice none 0 0] 110)=w1 at *;have hw2:w.alloc (ar Nd.zero (.slice none 0 0) (.slice none 0 0) (.slice none 0 0))=w1:=hw1;rw [hw2] at HA HZ HC hs1;clear hw1 hw2;go_wp2_with fail;refine (kV at_ gs gm s w1 HA.out).mono ?_;rintro e w2 ⟨rfl,hs,hc⟩;have HS2:=hid hs;have HC2:=hid (HC.out.trans (hc.mono (fun _ _ h=>.inl h)));have HZ2:=hid (hc.keep HZ.out (by omega));have hsz2:w1.heap.size≤w2.heap.size:=hc.size;clear hs hc;obtain ⟨o0,o1,o2,o3,o4⟩:=aa HZ2.out;have q0:=ac HZ2.out 0;have q1:=ac HZ2.out 1;have q2:=ac HZ2.out 2;have q3:=ac HZ2.out 3;simp only [Nd.zero] at o0;by_cases hbe:bU s at_=0
 ·have HGV:=hid (show jU s at_=s.B at_ by unfold jU;rw [if_pos hbe]);rw [HGV.out,hbe];have HR2:=hid (HRT.out.trans (if_pos hbe));generalize s.B at_=l at *;go_wp2_with fail;refine (lB l hl232 w2).mono ?_;rintro e w3 ⟨v,c,rfl,hp,hb⟩;have HS3:=hid (HS2.out.ch (S:=fun _=>False) (Ch.of_below hb) id id);have HC3:=hid (HC2.out.trans (Ch.of_below hb));have HZ3:=hid (ab HZ2.out hb);have hsz3:w2.heap.size≤w3.heap.size:=hb.size;clear hb o0 o1 o2 o3 o4 q0 q1 q2 q3;cases hd:dv l with
  | none=>
    rw [hd] at hp;obtain ⟨rfl,rfl⟩:=hp;have HV:=hid (show (aM at_).run s=(ba s,.err 30) by rw [HR2.out,hd]);have HZ4:=hid (ai HZ3.out (ar Nd.zero (.slice none 0 0) (.slice none 0 0) (.slice none 0 0)));have HS4:=hid (HS3.out.ch (S:=fun _=>False) (Ch.alloc (Ch.refl _ w3) (ar Nd.zero (.slice none 0 0) (.slice none 0 0) (.slice none 0 0))) id id);have HC4:=hid (Ch.alloc HC3.out (ar Nd.zero (.slice none 0 0) (.slice none 0 0) (.slice none 0 0)));go_upto_region 5 with fail
    generalize hw1:w3.alloc (.cells #[.bool false,.slice none 0 0,.slice none 0 0,.slice none 0 0] 110)=w4 at *;have hw2:w3.alloc (ar Nd.zero (.slice none 0 0) (.slice none 0 0) (.slice none 0 0))=w4:=hw1;rw [hw2] at HZ4 HS4 HC4;clear hw1 hw2;obtain ⟨o0,o1,o2,o3,o4⟩:=aa HZ4.out;have q0:=ac HZ4.out 0;have q1:=ac HZ4.out 1;have q2:=ac HZ4.out 2;have q3:=ac HZ4.out 3;simp only [Nd.zero] at o0;go_wp2_with fail;have hf:=am (am (am (am HZ4.out 0 (.bool false)) 1 (.slice none 0 0)) 2 (.slice none 0 0)) 3 (.slice none 0 0);obtain ⟨z0,z1,z2,z3,-⟩:=aa (n:=Nd.zero) hf;simp only [Nd.zero] at z0;have HC0:=hid ((((Ch.refl (fun j=>j=w.heap.size) w4).setCell (p:=⟨w.heap.size,0,none⟩) rfl (.bool false)).setCell (p:=⟨w.heap.size,1,none⟩) rfl (.slice none 0 0)).setCell (p:=⟨w.heap.size,2,none⟩) rfl (.slice none 0 0) |>.setCell (p:=⟨w.heap.size,3,none⟩) rfl (.slice none 0 0))
    exact bodyPost_ret (v:=.tuple #[k8,.int .i64 30]) (by simp [results,Tryz.results130,go_sem,z0,z1,z2,z3,k8]) rfl
     ⟨by rw [HV.out];exact rfl,by rw [HV.out];exact HS4.out.ch HC0.out (by omega) (by omega),HC4.out.then HC0.out (fun i hi=>.inr (by omega))⟩
  | some n=>
    rw [hd] at hp;obtain ⟨rfl,vk,vc,vd,rfl,h1,h2,h3,h4⟩:=hp;obtain ⟨A1,c1,rfl⟩:=Sl.len' (h1.sl aQ);obtain ⟨A2,c2,rfl⟩:=Sl.len' (h2.sl bZ);obtain ⟨A3,c3,rfl⟩:=Sl.len' (h3.sl aR);have HV:=hid (show (aM at_).run s=(ba s,.ok n) by rw [HR2.out,hd]);have HN:=hid (show NdO w2.heap.size w3 (.agg #[.bool n.leaf,.slice A1 n.keys.length c1,.slice A2 n.cells.length c2,.slice A3 n.kids.length c3]) n from ⟨_,_,_,rfl,h1,h2,h3,h4⟩);have HZ4:=hid (ai HZ3.out (ar n (.slice A1 n.keys.length c1) (.slice A2 n.cells.length c2) (.slice A3 n.kids.length c3)));have HX4:=hid (ag (w0:=w3) (g:=w3.heap.size) (o:=ar n (.slice A1 n.keys.length c1) (.slice A2 n.cells.length c2) (.slice A3 n.kids.length c3)) rfl);have HS4:=hid (HS3.out.ch (S:=fun _=>False) (Ch.alloc (Ch.refl _ w3) (ar n (.slice A1 n.keys.length c1) (.slice A2 n.cells.length c2) (.slice A3 n.kids.length c3))) id id);have HC4:=hid (Ch.alloc HC3.out (ar n (.slice A1 n.keys.length c1) (.slice A2 n.cells.length c2) (.slice A3 n.kids.length c3)));have HN4:=hid (HN.out.below ((Below.refl _ w3).alloc (Nat.le_refl _) (ar n (.slice A1 n.keys.length c1) (.slice A2 n.cells.length c2) (.slice A3 n.kids.length c3))));clear h1 h2 h3 h4 hd;go_upto_region 5 with fail
    generalize hw1:w3.alloc (.cells #[.bool n.leaf,.slice A1 n.keys.length c1,.slice A2 n.cells.length c2,.slice A3 n.kids.length c3] 110)=w4 at *;have hw2:w3.alloc (ar n (.slice A1 n.keys.length c1) (.slice A2 n.cells.length c2) (.slice A3 n.kids.length c3))=w4:=hw1;rw [hw2] at HZ4 HS4 HC4 HX4 HN4;clear hw1 hw2;obtain ⟨o0,o1,o2,o3,o4⟩:=aa HZ4.out;obtain ⟨a0,a1,a2,a3,a4⟩:=aa HX4.out;have q0:=ac HZ4.out 0;have q1:=ac HZ4.out 1;have q2:=ac HZ4.out 2;have q3:=ac HZ4.out 3;simp only [Nd.zero] at o0;go_wp2_with fail;have hf:=am (am (am (am HZ4.out 0 (.bool n.leaf)) 1 (.slice A1 n.keys.length c1)) 2 (.slice A2 n.cells.length c2)) 3 (.slice A3 n.kids.length c3);obtain ⟨z0,z1,z2,z3,-⟩:=aa (n:=n) hf;have HC0:=hid ((((Ch.refl (fun j=>j=w.heap.size) w4).setCell (p:=⟨w.heap.size,0,none⟩) rfl (.bool n.leaf)).setCell (p:=⟨w.heap.size,1,none⟩) rfl (.slice A1 n.keys.length c1)).setCell (p:=⟨w.heap.size,2,none⟩) rfl (.slice A2 n.cells.length c2) |>.setCell (p:=⟨w.heap.size,3,none⟩) rfl (.slice A3 n.kids.length c3))
    exact bodyPost_ret (v:=.tuple #[.agg #[.bool n.leaf,.slice A1 n.keys.length c1,.slice A2 n.cells.length c2,.slice A3 n.kids.length c3],.int .i64 0]) (by simp [results,Tryz.results130,go_sem,z0,z1,z2,z3]) rfl
     ⟨by rw [HV.out];exact ⟨_,rfl,(HN4.out.ch HC0.out (fun j hj e=>by omega)).base (by omega)⟩,
      by rw [HV.out];exact HS4.out.ch HC0.out (by omega) (by omega),HC4.out.then HC0.out (fun i hi=>.inr (by omega))⟩
 ·have HV:=hid (HRT.out.trans (if_neg hbe));generalize bU s at_=be at *;generalize jU s at_=gv at *;have hbe2:(be == 0)=false:=by simpa using hbe
  go_wp2_with fail;have hf:=am (am (am (am HZ2.out 0 (.bool false)) 1 (.slice none 0 0)) 2 (.slice none 0 0)) 3 (.slice none 0 0);obtain ⟨z0,z1,z2,z3,-⟩:=aa (n:=Nd.zero) hf;simp only [Nd.zero] at z0;have HC0:=hid ((((Ch.refl (fun j=>j=w.heap.size) w2).setCell (p:=⟨w.heap.size,0,none⟩) rfl (.bool false)).setCell (p:=⟨w.heap.size,1,none⟩) rfl (.slice none 0 0)).setCell (p:=⟨w.heap.size,2,none⟩) rfl (.slice none 0 0) |>.setCell (p:=⟨w.heap.size,3,none⟩) rfl (.slice none 0 0))
  exact bodyPost_ret (v:=.tuple #[k8,.int .i64 be]) (by simp [results,Tryz.results130,go_sem,z0,z1,z2,z3,k8]) rfl
   ⟨by rw [HV.out];exact rfl,by rw [HV.out];exact HS2.out.ch HC0.out (by omega) (by omega),HC2.out.then HC0.out (fun i hi=>.inr (by omega))⟩
def bQ:Ans (Option Pr)→Pr
 | .ok (some p)=>p
 | _=>([],[])
def fA:Ans (Option Pr)→Bool
 | .ok (some _)=>true
 | _=>false
def fB:Ans (Option Pr)→Int
 | .err x=>x
 | _=>0
def dj (p:Pr):Obj:=.cells #[.string (ap p.1),.string (ap p.2)] 62 (0,0)
def dm (a:Ans (Option Pr)):Value:=.tuple #[.agg #[.string (ap (bQ a).1),.string (ap (bQ a).2)],.bool (fA a),.int .i64 (fB a)]
theorem ak {w:World} {g:Nat} {p:Pr} (hh:w.heap[g]?=some (dj p)):w.cell? ⟨g,0,none⟩=some (.string (ap p.1))∧w.cell? ⟨g,1,none⟩=some (.string (ap p.2))∧w.frozen? ⟨g,0,none⟩=false∧w.frozen? ⟨g,1,none⟩=false∧g<w.heap.size:=
 ⟨ae hh 0,ae hh 1,ac hh 0,ac hh 1,aj hh⟩
theorem aS {w:World} {g:Nat} {p:Pr} (h:w.heap[g]?=some (dj p)) (q:Pr):((w.setCell ⟨g,0,none⟩ (.string (ap q.1))).setCell ⟨g,1,none⟩ (.string (ap q.2))).heap[g]?=some (dj q):=
 am (am h 0 _) 1 _
theorem aN {S:Nat→Prop} {a w:World} (h:Ch S a w) {g:Nat} (hg:S g) (x y:Value):Ch S a ((w.setCell ⟨g,0,none⟩ x).setCell ⟨g,1,none⟩ y):=(h.setCell (p:=⟨g,0,none⟩) hg x).setCell (p:=⟨g,1,none⟩) hg y
theorem bE (x:Int) (w:World):Calls Tryz.prog 131 #[.int .i64 x] w fun e w'=>e=.returned (.tuple #[.agg #[.string ⟨#[]⟩,.string ⟨#[]⟩],.bool false,.int .i64 x])∧Below w.heap.size w w':=by go_enter Tryz.func131,Tryz.ntmps131;go_wp2_with fail;exact bodyPost_ret (v:=.tuple #[.agg #[.string ⟨#[]⟩,.string ⟨#[]⟩],.bool false,.int .i64 x]) (by simp [results,Tryz.results131,go_sem]) rfl ⟨rfl,by go_grown⟩
theorem mY (n:Nd) (k:By) (wt_:Bool) (v:Value) (w:World) (h:NdV w v n) (hb:n.Bd) (hg:aF n=true):Calls Tryz.prog 78 #[v,.string (ap k),.bool wt_] w fun e w'=>e=.returned (.int .i64 (fU n k wt_))∧Below w.heap.size w w':=by
 have HGD:=hid hg;have HLB:=hid (show bJ n.keys k≤n.keys.length from (List.takeWhile_sublist _).length_le);clear hg;obtain ⟨vk,vc,vd,rfl,hs⟩:=h;have HW0:=hid ((Below.refl _ w).alloc (Nat.le_refl _) (ar n vk vc vd));have HG0:=hid (ag (w0:=w) (g:=w.heap.size) (o:=ar n vk vc vd) rfl);have HS0:=hid (hs.keep HW0.out);have HB:=hid hb;clear hs hb;go_enter Tryz.func78,Tryz.ntmps78;go_upto_region 1 with fail
 generalize hw1:w.alloc (.cells #[.bool n.leaf,vk,vc,vd] 110)=w1 at *;have hw2:w.alloc (ar n vk vc vd)=w1:=hw1;rw [hw2] at HW0 HG0 HS0;clear hw1 hw2;obtain ⟨a0,a1,a2,a3,a4⟩:=aa HG0.out;go_wp2_with fail;refine (gX n k _ w1 ⟨vk,vc,vd,rfl,HS0.out⟩ HB.out HGD.out).mono ?_;rintro e w2 ⟨rfl,hb⟩;have HW2:=hid (HW0.out.trans (hb.mono HW0.out.size));clear hb a0 a1 a2 a3 a4;have hbk:=HB.out.k;have hlb:=HLB.out;cases hi:iu n.keys k
 ·have HV:=hid (show fU n k wt_=bJ n.keys k by unfold fU;rw [hi];rfl);go_wp2_with fail;go_ret;exact ⟨by rw [HV.out];rfl,HW2.out⟩
 ·cases wt_
  ·have HV:=hid (show fU n k false=bJ n.keys k by unfold fU;rw [hi];rfl);go_wp2_with fail;go_ret;exact ⟨by rw [HV.out];rfl,HW2.out⟩
  ·have HV:=hid (show fU n k true=bJ n.keys k+1 by unfold fU;rw [hi];rfl);go_wp2_with fail;go_ret;exact ⟨by rw [HV.out];go_num,HW2.out⟩
def Bx (w:World) (g:Nat) (t:TypeId) (v:Value):Prop:=w.heap[g]?=some (.cells #[v] t (0,0))
theorem Bx.cell {w:World} {g:Nat} {t:TypeId} {v:Value} (h:Bx w g t v):w.cell? ⟨g,0,none⟩=some v:=ae h 0
theorem Bx.lt {w:World} {g:Nat} {t:TypeId} {v:Value} (h:Bx w g t v):g<w.heap.size:=aj h
theorem Bx.keep {w w':World} {g:Nat} {t:TypeId} {v:Value} (h:Bx w g t v) (hb:Below w.heap.size w w'):Bx w' g t v:=ab h hb
theorem Bx.ch {w w':World} {S:Nat→Prop} {g:Nat} {t:TypeId} {v:Value} (h:Bx w g t v) (hc:Ch S w w') (hn:¬ S g):Bx w' g t v:=hc.keep h hn
theorem mG (n:Nd) (k:By) (past:Bool) (bk bp:Nat) (v:Value) (w:World) (h:NdV w v n) (hb:n.Bd) (hg:aF n=true) (hk:Bx w bk 9 (.string (ap k))) (hp:Bx w bp 4 (.bool past)):Calls Tryz.prog 77 #[v,.pointer (some ⟨bk,0,none⟩),.pointer (some ⟨bp,0,none⟩)] w fun e w'=>e=.returned (.int .i64 (fU n k past))∧Below w.heap.size w w':=by
 have HGD:=hid hg;have HLB:=hid (show fU n k (past)≤n.keys.length+1 by
  have h1:bJ n.keys k≤n.keys.length:=(List.takeWhile_sublist _).length_le;unfold fU;split <;> omega)
 have hkl:=hk.lt;have hpl:=hp.lt;clear hg;have HK0:=hid hk;have HP0:=hid hp;clear hk hp;obtain ⟨vk,vc,vd,rfl,hs⟩:=h;have HW0:=hid ((Below.refl _ w).alloc (Nat.le_refl _) (ar n vk vc vd));have HG0:=hid (ag (w0:=w) (g:=w.heap.size) (o:=ar n vk vc vd) rfl);have HS0:=hid (hs.keep HW0.out);have HB:=hid hb;clear hs hb;go_enter Tryz.func77,Tryz.ntmps77;go_upto_region 1 with fail
 generalize hw1:w.alloc (.cells #[.bool n.leaf,vk,vc,vd] 110)=w1 at *;have hw2:w.alloc (ar n vk vc vd)=w1:=hw1;rw [hw2] at HW0 HG0 HS0;clear hw1 hw2;obtain ⟨a0,a1,a2,a3,a4⟩:=aa HG0.out;have HK:=hid (HK0.out.keep HW0.out);have HP:=hid (HP0.out.keep HW0.out);have k0:=HK.out.cell;have k1:=HK.out.lt;have p0:=HP.out.cell;have p1:=HP.out.lt;go_wp2_with fail;refine (mY n k _ _ w1 ⟨vk,vc,vd,rfl,HS0.out⟩ HB.out HGD.out).mono ?_;rintro e w2 ⟨rfl,hb⟩;have HW2:=hid (HW0.out.trans (hb.mono HW0.out.size));clear hb a0 a1 a2 a3 a4 k0 k1 p0 p1;have hbk:=HB.out.k;have hlb:=HLB.out;go_wp2_with fail;go_ret;exact ⟨rfl,HW2.out⟩
theorem qo (n:Nd) (k:By) (past:Bool) (bk bp:Nat) (v:Value) (w:World) (h:NdV w v n) (hb:n.Bd) (hg:aF n=true) (hk:Bx w bk 9 (.string (ap k))) (hp:Bx w bp 4 (.bool past)):Calls Tryz.prog 81 #[v,.pointer (some ⟨bk,0,none⟩),.pointer (some ⟨bp,0,none⟩)] w fun e w'=>e=.returned (.int .i64 ((fU n k (!past):Int) - 1))∧Below w.heap.size w w':=by
 have HGD:=hid hg;have HLB:=hid (show fU n k (!past)≤n.keys.length+1 by
  have h1:bJ n.keys k≤n.keys.length:=(List.takeWhile_sublist _).length_le;unfold fU;split <;> omega)
 have hkl:=hk.lt;have hpl:=hp.lt;clear hg;have HK0:=hid hk;have HP0:=hid hp;clear hk hp;obtain ⟨vk,vc,vd,rfl,hs⟩:=h;have HW0:=hid ((Below.refl _ w).alloc (Nat.le_refl _) (ar n vk vc vd));have HG0:=hid (ag (w0:=w) (g:=w.heap.size) (o:=ar n vk vc vd) rfl);have HS0:=hid (hs.keep HW0.out);have HB:=hid hb;clear hs hb;go_enter Tryz.func81,Tryz.ntmps81;go_upto_region 1 with fail
 generalize hw1:w.alloc (.cells #[.bool n.leaf,vk,vc,vd] 110)=w1 at *;have hw2:w.alloc (ar n vk vc vd)=w1:=hw1;rw [hw2] at HW0 HG0 HS0;clear hw1 hw2;obtain ⟨a0,a1,a2,a3,a4⟩:=aa HG0.out;have HK:=hid (HK0.out.keep HW0.out);have HP:=hid (HP0.out.keep HW0.out);have k0:=HK.out.cell;have k1:=HK.out.lt;have p0:=HP.out.cell;have p1:=HP.out.lt;go_wp2_with fail;refine (mY n k _ _ w1 ⟨vk,vc,vd,rfl,HS0.out⟩ HB.out HGD.out).mono ?_;rintro e w2 ⟨rfl,hb⟩;have HW2:=hid (HW0.out.trans (hb.mono HW0.out.size));clear hb a0 a1 a2 a3 a4 k0 k1 p0 p1;have hbk:=HB.out.k;have hlb:=HLB.out;go_wp2_with fail;go_ret;exact ⟨rfl,HW2.out⟩
theorem i9 (n:Nd) (k:By) (past:Bool) (bk bp:Nat) (v:Value) (w:World) (h:NdV w v n) (hb:n.Bd) (hg:aF n=true) (hk:Bx w bk 9 (.string (ap k))) (hp:Bx w bp 4 (.bool past)):Calls Tryz.prog 129 #[v,.pointer (some ⟨bk,0,none⟩)] w fun e w'=>e=.returned (.int .i64 (fU n k true))∧Below w.heap.size w w':=by
 have HGD:=hid hg;have HLB:=hid (show fU n k (true)≤n.keys.length+1 by
  have h1:bJ n.keys k≤n.keys.length:=(List.takeWhile_sublist _).length_le;unfold fU;split <;> omega)
 have hkl:=hk.lt;have hpl:=hp.lt;clear hg;have HK0:=hid hk;have HP0:=hid hp;clear hk hp;obtain ⟨vk,vc,vd,rfl,hs⟩:=h;have HW0:=hid ((Below.refl _ w).alloc (Nat.le_refl _) (ar n vk vc vd));have HG0:=hid (ag (w0:=w) (g:=w.heap.size) (o:=ar n vk vc vd) rfl);have HS0:=hid (hs.keep HW0.out);have HB:=hid hb;clear hs hb;go_enter Tryz.func129,Tryz.ntmps129;go_upto_region 1 with fail
 generalize hw1:w.alloc (.cells #[.bool n.leaf,vk,vc,vd] 110)=w1 at *;have hw2:w.alloc (ar n vk vc vd)=w1:=hw1;rw [hw2] at HW0 HG0 HS0;clear hw1 hw2;obtain ⟨a0,a1,a2,a3,a4⟩:=aa HG0.out;have HK:=hid (HK0.out.keep HW0.out);have HP:=hid (HP0.out.keep HW0.out);have k0:=HK.out.cell;have k1:=HK.out.lt;have p0:=HP.out.cell;have p1:=HP.out.lt;go_wp2_with fail;refine (mY n k _ _ w1 ⟨vk,vc,vd,rfl,HS0.out⟩ HB.out HGD.out).mono ?_;rintro e w2 ⟨rfl,hb⟩;have HW2:=hid (HW0.out.trans (hb.mono HW0.out.size));clear hb a0 a1 a2 a3 a4 k0 k1 p0 p1;have hbk:=HB.out.k;have hlb:=HLB.out;go_wp2_with fail;go_ret;exact ⟨rfl,HW2.out⟩
theorem mu (n:Nd) (v:Value) (w:World) (h:NdV w v n) (hb:n.Bd):Calls Tryz.prog 82 #[v] w fun e w'=>e=.returned (.int .i64 ((n.kids.length:Int) - 1))∧Below w.heap.size w w':=by
 obtain ⟨vk,vc,vd,rfl,hs⟩:=h;have HW0:=hid ((Below.refl _ w).alloc (Nat.le_refl _) (ar n vk vc vd));have HG0:=hid (ag (w0:=w) (g:=w.heap.size) (o:=ar n vk vc vd) rfl);have HS0:=hid (hs.keep HW0.out);have HB:=hid hb;clear hs hb;obtain ⟨A1,c1,rfl⟩:=Sl.len' HS0.out.k;obtain ⟨A3,c3,rfl⟩:=Sl.len' HS0.out.d;go_enter Tryz.func82,Tryz.ntmps82;go_upto_region 1 with fail
 generalize hw1:w.alloc (.cells #[.bool n.leaf,.slice A1 n.keys.length c1,vc,.slice A3 n.kids.length c3] 110)=w1 at *;have hw2:w.alloc (ar n (.slice A1 n.keys.length c1) vc (.slice A3 n.kids.length c3))=w1:=hw1;rw [hw2] at HW0 HG0 HS0;clear hw1 hw2;obtain ⟨a0,a1,a2,a3,a4⟩:=aa HG0.out;have hbk:=HB.out.k;have hbd:=HB.out.d;go_wp2_with fail;go_ret;exact ⟨rfl,HW0.out⟩
theorem mt (n:Nd) (v:Value) (w:World) (h:NdV w v n) (hb:n.Bd):Calls Tryz.prog 83 #[v] w fun e w'=>e=.returned (.int .i64 ((n.keys.length:Int) - 1))∧Below w.heap.size w w':=by
 obtain ⟨vk,vc,vd,rfl,hs⟩:=h;have HW0:=hid ((Below.refl _ w).alloc (Nat.le_refl _) (ar n vk vc vd));have HG0:=hid (ag (w0:=w) (g:=w.heap.size) (o:=ar n vk vc vd) rfl);have HS0:=hid (hs.keep HW0.out);have HB:=hid hb;clear hs hb;obtain ⟨A1,c1,rfl⟩:=Sl.len' HS0.out.k;obtain ⟨A3,c3,rfl⟩:=Sl.len' HS0.out.d;go_enter Tryz.func83,Tryz.ntmps83;go_upto_region 1 with fail
 generalize hw1:w.alloc (.cells #[.bool n.leaf,.slice A1 n.keys.length c1,vc,.slice A3 n.kids.length c3] 110)=w1 at *;have hw2:w.alloc (ar n (.slice A1 n.keys.length c1) vc (.slice A3 n.kids.length c3))=w1:=hw1;rw [hw2] at HW0 HG0 HS0;clear hw1 hw2;obtain ⟨a0,a1,a2,a3,a4⟩:=aa HG0.out;have hbk:=HB.out.k;have hbd:=HB.out.d;go_wp2_with fail;go_ret;exact ⟨rfl,HW0.out⟩
def fZ (n:Nd) (i:Nat):Pro (Option Pr):=(ou n i).bind fun p=>.pure (some p)
theorem sD (n:Nd) (i:Nat) (h:i<n.cells.length):fZ n i=(cf n.cells[i]).bind fun r=>.pure (some (n.keys.getD i [],r.1)):=by unfold fZ ou;rw [eF,List.getD_eq_getElem?_getD (l:=n.cells),List.getElem?_eq_getElem h];rfl
theorem jq (n:Nd) (i:Nat) (vk vc vd:Value) (gs gm:Nat) (s:Sf) (w:World) (hS:ShIs w gs gm s) (h:NdS w n vk vc vd) (hb:n.Sm 229) (hi:i<n.keys.length) (hc:n.cells.length=n.keys.length) (B:Nat) (hF:SlF sC 1 B w vk n.keys) (hBB:gs<B∧gm<B):
  Calls Tryz.prog 132 #[bt gs,.agg #[.bool n.leaf,vk,vc,vd],.int .i64 i] w fun e w'=>e=.returned (dm ((fZ n i).run s).2)∧ShIs w' gs gm ((fZ n i).run s).1∧Ch (fun k=>k=gs∨k=gm) w w':=by
 have hic:i<n.cells.length:=by omega
 have HE:=hid (show (fZ n i).run s=((cf n.cells[i]).bind fun r=>.pure (some (n.keys[i],r.1))).run s by rw [sD n i hic,List.getD_eq_getElem?_getD (l:=n.keys),List.getElem?_eq_getElem hi];rfl);obtain ⟨A1,c1,rfl⟩:=Sl.len' h.k;obtain ⟨A2,c2,rfl⟩:=Sl.len' h.c;have HW0:=hid (((Below.refl _ w).alloc (Nat.le_refl _) (ar n (.slice A1 n.keys.length c1) (.slice A2 n.cells.length c2) vd)).alloc (by simp) (dj ([],[])));have HG0:=hid (ai (ag (w0:=w) (g:=w.heap.size) (o:=ar n (.slice A1 n.keys.length c1) (.slice A2 n.cells.length c2) vd) rfl) (dj ([],[])));have HP0:=hid (ag (w0:=w.alloc (ar n (.slice A1 n.keys.length c1) (.slice A2 n.cells.length c2) vd)) (g:=w.heap.size+1) (o:=dj ([],[])) (by simp));have HSZ:=hid (show ((w.alloc (ar n (.slice A1 n.keys.length c1) (.slice A2 n.cells.length c2) vd)).alloc (dj ([],[]))).heap.size=w.heap.size+2 by simp);have HS0:=hid (h.keep HW0.out);have HSH:=hid (hS.ch (S:=fun _=>False) (Ch.of_below HW0.out) id id);have HSM:=hid hb;have HF0:=hid (hF.keep HW0.out);have HBB:=hid hBB;have HGW:=hid (show gs<w.heap.size∧gm<w.heap.size from ⟨aj hS.blk,hS.book.lt⟩);clear h hS hb hc hF hBB;unfold bt;go_enter Tryz.func132,Tryz.ntmps132;go_upto_region 1 with fail
 generalize hw1:(w.alloc (.cells #[.bool n.leaf,.slice A1 n.keys.length c1,.slice A2 n.cells.length c2,vd] 110)).alloc (.cells #[.string ⟨#[]⟩,.string ⟨#[]⟩] 62)=w1 at *;have hw2:(w.alloc (ar n (.slice A1 n.keys.length c1) (.slice A2 n.cells.length c2) vd)).alloc (dj ([],[]))=w1:=hw1;rw [hw2] at HW0 HG0 HP0 HS0 HSH HSZ HF0;clear hw1 hw2;obtain ⟨a0,a1,a2,a3,a4⟩:=aa HG0.out;obtain ⟨p0,p1,p2,p3,p4⟩:=ak HP0.out;obtain ⟨b,off,he,hbl,hn',e0,e1,e2⟩:=HS0.out.c.cell3 hic;subst he;have hdl:=HSM.out.cl _ (List.getElem_mem hic);have hk0:(0:Int)≤(i:Int):=by omega
 have hk1:(i:Int)<(n.cells.length:Int):=by omega
 have hk2:(i:Int)<(n.keys.length:Int):=by omega
 generalize n.cells[i]=c at *;have HCV:=hid (lC c gs gm s w1 HSH.out (by omega));unfold jo bt at HCV;go_wp2_with fail;refine HCV.out.mono ?_;rintro e w5 ⟨hp,hs,hc⟩;have HS5:=hid hs;have HC5:=hid ((Ch.of_below (S:=fun k=>k=gs∨k=gm) HW0.out).trans hc);have HG5:=hid (hc.keep HG0.out (by have:=HGW.out;omega));have HP5:=hid (hc.keep HP0.out (by have:=HGW.out;omega));have HF5:=hid (HF0.out.ch hc (fun k hk e=>by have:=HBB.out;omega));have HSZ5:=hc.size;clear a0 a1 a2 a3 a4 p0 p1 p2 p3 p4 e0 e1 e2 hbl;have hwz:=iR (c:=c) (s:=s);obtain ⟨⟨s3,a⟩,hx⟩:∃ x,(cf c).run s=x:=⟨_,rfl⟩;rw [hx] at HS5 hp hwz;obtain ⟨a0,a1,a2,a3,a4⟩:=aa HG5.out;obtain ⟨p0,p1,p2,p3,p4⟩:=ak HP5.out;cases a with
 | ok r=>
   obtain ⟨d,ps⟩:=r;obtain rfl:=hp;have HV:=hid (show (fZ n i).run s=(s3,.ok (some (n.keys[i],d))) from HE.out.trans (ah hx));obtain ⟨b1,off1,c1',he1,hbl1,hkc⟩:=HF5.out.sl.at1 hi;injection he1 with he1 _ he3
   subst he1 he3;have k0:w5.cell? ⟨b1,off1+i,none⟩=some (.string (ap n.keys[i])):=by simpa [sC] using hkc 0 _ rfl
   clear hkc;generalize n.keys[i]=ky at *;go_wp2_with fail;have hf:=aS HP5.out (ky,d);obtain ⟨z0,z1,-,-,-⟩:=ak hf;have HC0:=aN (S:=fun j=>j=w.heap.size+1) (Ch.refl _ w5) rfl (.string (ap ky)) (.string (ap d))
   exact bodyPost_ret (v:=.tuple #[.agg #[.string (ap ky),.string (ap d)],.bool true,.int .i64 0]) (by simp [results,Tryz.results132,go_sem,z0,z1]) rfl
    ⟨by rw [HV.out];rfl,by rw [HV.out];exact HS5.out.ch HC0 (by have:=HGW.out;omega) (by have:=HGW.out;omega),HC5.out.then HC0 (fun i hi=>.inr (by omega))⟩
 | err x=>
   obtain rfl:=hp;have hx0:¬ x=0:=hwz x rfl;have hx1:(x == 0)=false:=by simpa using hx0
   have HV:=hid (show (fZ n i).run s=(s3,.err x) from HE.out.trans (aq hx));go_wp2_with fail;refine (bE x w5).mono ?_;rintro e w6 ⟨rfl,hb⟩;have HS6:=hid (HS5.out.ch (S:=fun _=>False) (Ch.of_below hb) id id);have HC6:=hid (HC5.out.trans (Ch.of_below hb));have HP6:=hid (ab HP5.out hb);have HSZ6:=hb.size;clear hb a0 a1 a2 a3 a4 p0 p1 p2 p3 p4;obtain ⟨p0,p1,p2,p3,p4⟩:=ak HP6.out;go_wp2_with fail;have hf:=aS HP6.out ([],[]);obtain ⟨z0,z1,-,-,-⟩:=ak hf;have HC0:=aN (S:=fun j=>j=w.heap.size+1) (Ch.refl _ w6) rfl (.string ⟨#[]⟩) (.string ⟨#[]⟩);have y0:((w6.setCell ⟨w.heap.size+1,0,none⟩ (.string ⟨#[]⟩)).setCell ⟨w.heap.size+1,1,none⟩ (.string ⟨#[]⟩)).cell? ⟨w.heap.size+1,0,none⟩=some (.string ⟨#[]⟩):=z0;have y1:((w6.setCell ⟨w.heap.size+1,0,none⟩ (.string ⟨#[]⟩)).setCell ⟨w.heap.size+1,1,none⟩ (.string ⟨#[]⟩)).cell? ⟨w.heap.size+1,1,none⟩=some (.string ⟨#[]⟩):=z1
   exact bodyPost_ret (v:=.tuple #[.agg #[.string ⟨#[]⟩,.string ⟨#[]⟩],.bool false,.int .i64 x]) (by simp [results,Tryz.results132,go_sem,y0,y1]) rfl
    ⟨by rw [HV.out];rfl,by rw [HV.out];exact HS6.out.ch HC0 (by have:=HGW.out;omega) (by have:=HGW.out;omega),HC6.out.then HC0 (fun i hi=>.inr (by omega))⟩
theorem dK (sk:Sk):∀ (f:Nat) (a:Int),(au sk f a).NZ
 | 0,a=>Pro.NZ.bind _ _ (eJ a) (fun _=>show (30:Int)≠0 by decide)
 | f+1,a=>by
   unfold au;refine Pro.NZ.bind _ _ (eJ a) (fun n=>?_)
   split
   ·unfold eR
    split
    ·exact Pro.NZ.bind _ _ (Pro.NZ.bind _ _ (iS _) (fun _=>trivial)) (fun _=>trivial)
    ·trivial
   ·refine Pro.NZ.bind _ _ (dK sk f _) (fun o=>?_);cases o with
    | some p=>trivial
    | none=>
      unfold dI;simp only
      split
      ·exact dK sk f _
      ·trivial
def iA (lf kf:Value) (st:Int):Obj:=.cells #[lf,kf,.int .i64 st] 140 (0,0)
theorem dh {w:World} {g:Nat} {lf kf:Value} {st:Int} (hh:w.heap[g]?=some (iA lf kf st)):w.cell? ⟨g,0,none⟩=some lf∧w.cell? ⟨g,1,none⟩=some kf∧w.cell? ⟨g,2,none⟩=some (.int .i64 st)∧g<w.heap.size:=
 ⟨ae hh 0,ae hh 1,ae hh 2,aj hh⟩
theorem Sl.int2 {w:World} {A:Option Addr} {n c k:Nat} {xs:List Int} (h:Sl iC 1 w (.slice A n c) xs) (hk:k<xs.length):∃ b off,A=some ⟨b,off,none⟩∧b<w.heap.size∧w.cell? ⟨b,off+k,none⟩=some (.int .i64 xs[k]):=by
 obtain ⟨b,off,c',he,hbl,hsl⟩:=h.at1 hk;injection he with e1 e2 e3
 exact ⟨b,off,e1,hbl,by simpa [iC] using hsl 0 _ rfl⟩
def wy (w:World) (gs gm:Nat) (s:Sf) (a:Ans (Option Pr)) (ev xv iv:Value) (wc:World):Prop:=
 ∃ g,xv=.pointer (some ⟨g,0,none⟩)∧wc.heap[g]?=some (dj (bQ a))∧iv=.bool (fA a)∧ev=.int .i64 (fB a)∧ShIs wc gs gm s∧Ch (fun k=>k=gs∨k=gm) w wc
def ww (w:World) (gs gm g:Nat) (s:Sf) (a:Ans (Option Pr)) (bv iv:Value) (wc:World):Prop:=
 wc.heap[g]?=some (dj (bQ a))∧bv=.bool (fA a)∧iv=.int .i64 (fB a)∧ShIs wc gs gm s∧Ch (fun k=>k=gs∨k=gm) w wc
theorem mD (LK:World→Prop) (sk:Sk) (b1 b2 b3 gs gm:Nat) (hst:sk.step=1)
  (hlf:∀ W n v,LK W→NdV W v n→n.Sm 229→aF n=true→Calls Tryz.prog 77 #[v,.pointer (some ⟨b1,0,none⟩),.pointer (some ⟨b2,0,none⟩)] W fun e w'=>e=.returned (.int .i64 (sk.lf n))∧Below W.heap.size W w')
  (hkf:∀ W n v,LK W→NdV W v n→n.Sm 229→aF n=true→Calls Tryz.prog 129 #[v,.pointer (some ⟨b3,0,none⟩)] W fun e w'=>e=.returned (.int .i64 (sk.kd n))∧Below W.heap.size W w')
  (hch:∀ W W',LK W→Ch (fun k=>k=gs∨k=gm) W W'→LK W')
  (hkd:∀ n,aF n=true→n.leaf=false→0≤sk.kd n∧sk.kd n<n.kids.length)
  (f:Nat) (hf:f≤20) (at_:Int) (s:Sf) (w:World) (hS:ShIs w gs gm s) (hL:LK w)
  (ih:∀ f',f'+1=f→∀ at_ s w,ShIs w gs gm s→LK w→Calls Tryz.prog 80 #[.agg #[.func (.func 77) #[] #[.pointer (some ⟨b1,0,none⟩),.pointer (some ⟨b2,0,none⟩)],.func (.func 129) #[] #[.pointer (some ⟨b3,0,none⟩)],.int .i64 1],bt gs,.int .i64 at_,.int .i64 (21 - f':Int)] w fun e w'=>e=.returned (dm ((au sk f' at_).run s).2)∧ShIs w' gs gm ((au sk f' at_).run s).1∧Ch (fun k=>k=gs∨k=gm) w w'):
  Calls Tryz.prog 80 #[.agg #[.func (.func 77) #[] #[.pointer (some ⟨b1,0,none⟩),.pointer (some ⟨b2,0,none⟩)],.func (.func 129) #[] #[.pointer (some ⟨b3,0,none⟩)],.int .i64 1],bt gs,.int .i64 at_,.int .i64 (21 - f:Int)] w fun e w'=>e=.returned (dm ((au sk f at_).run s).2)∧ShIs w' gs gm ((au sk f at_).run s).1∧Ch (fun k=>k=gs∨k=gm) w w':=by
 have HIH:=hid ih;have HST:=hid hst;have HLF:=hid hlf;have HKF:=hid hkf;have HCH:=hid hch;have HKD:=hid hkd;have hgs:=aj hS.blk;have hgm:=hS.book.lt;generalize hlv:(21 - (f:Int))=lv at *;have HLV:=hid hlv;have hlv0:1≤lv:=by omega
 have hlv1:lv≤21:=by omega
 have HW1:=hid (((Below.refl _ w).alloc (Nat.le_refl _) (iA (.func (.func 77) #[] #[.pointer (some ⟨b1,0,none⟩),.pointer (some ⟨b2,0,none⟩)]) (.func (.func 129) #[] #[.pointer (some ⟨b3,0,none⟩)]) 1)).alloc (by simp) (dj ([],[])));have HQ1:=hid (ai (ag (w0:=w) (g:=w.heap.size) (o:=iA (.func (.func 77) #[] #[.pointer (some ⟨b1,0,none⟩),.pointer (some ⟨b2,0,none⟩)]) (.func (.func 129) #[] #[.pointer (some ⟨b3,0,none⟩)]) 1) rfl) (dj ([],[])));have HP1:=hid (ag (w0:=w.alloc (iA (.func (.func 77) #[] #[.pointer (some ⟨b1,0,none⟩),.pointer (some ⟨b2,0,none⟩)]) (.func (.func 129) #[] #[.pointer (some ⟨b3,0,none⟩)]) 1)) (g:=w.heap.size+1) (o:=dj ([],[])) (by simp));have HSZ:=hid (show ((w.alloc (iA (.func (.func 77) #[] #[.pointer (some ⟨b1,0,none⟩),.pointer (some ⟨b2,0,none⟩)]) (.func (.func 129) #[] #[.pointer (some ⟨b3,0,none⟩)]) 1)).alloc (dj ([],[]))).heap.size=w.heap.size+2 by simp);have HS1:=hid (hS.ch (S:=fun _=>False) (Ch.of_below HW1.out) id id);have HL1:=hid (hch _ _ hL (Ch.of_below HW1.out));have HC1:=hid (Ch.of_below (S:=fun k=>k=gs∨k=gm) HW1.out);clear hS hL ih hlv hst hlf hkf hch hkd;unfold bt at HIH ⊢;go_enter Tryz.func80,Tryz.ntmps80;go_upto_region 1 with fail
 generalize hw1:(w.alloc (.cells #[.func (.func 77) #[] #[.pointer (some ⟨b1,0,none⟩),.pointer (some ⟨b2,0,none⟩)],.func (.func 129) #[] #[.pointer (some ⟨b3,0,none⟩)],.int .i64 1] 140)).alloc (.cells #[.string ⟨#[]⟩,.string ⟨#[]⟩] 62)=w1 at *;have hw2:(w.alloc (iA (.func (.func 77) #[] #[.pointer (some ⟨b1,0,none⟩),.pointer (some ⟨b2,0,none⟩)]) (.func (.func 129) #[] #[.pointer (some ⟨b3,0,none⟩)]) 1)).alloc (dj ([],[]))=w1:=hw1;rw [hw2] at HW1 HQ1 HP1 HSZ HS1 HL1 HC1;clear hw1 hw2;have HRD:=hid (jp at_ gs gm s w1 HS1.out);unfold bt at HRD;go_wp2_with fail;refine HRD.out.mono ?_;rintro e w2 ⟨hp,hs,hc⟩;have hrz:=bF (a:=at_) (s:=s);obtain ⟨⟨s2,a⟩,hx⟩:∃ x,(aM at_).run s=x:=⟨_,rfl⟩;rw [hx] at hp hs hrz;have HS2:=hid hs;have HC2:=hid (HC1.out.trans hc);have HL2:=hid (HCH.out _ _ HL1.out hc);have hsz1:=HSZ.out;have HQ2:=hid (hc.keep HQ1.out (by omega));have HP2:=hid (hc.keep HP1.out (by omega));have HX:=hid hx;have hsz2:=hc.size;clear hs hc hx HRD;cases a with
 | err x=>
   obtain rfl:=hp;have hx0:¬ x=0:=hrz x rfl;have hx1:(x == 0)=false:=by simpa using hx0
   have HV:=hid (show (au sk f at_).run s=(s2,.err x) by
    cases f with
    | zero=>exact aq HX.out
    | succ f=>unfold au;exact aq HX.out)
   obtain ⟨zn,hzn⟩:∃ o,o=ar Nd.zero (.slice none 0 0) (.slice none 0 0) (.slice none 0 0):=⟨_,rfl⟩;have HS3:=hid (HS2.out.ch (S:=fun _=>False) (Ch.alloc (Ch.refl _ w2) zn) id id);have HC3:=hid (Ch.alloc HC2.out zn);have HP3:=hid (ai HP2.out zn);have hsz3:w2.heap.size<(w2.alloc zn).heap.size:=by simp
   simp only [k8];go_upto_region 2 with fail
   generalize hw1:w2.alloc (.cells #[.bool false,.slice none 0 0,.slice none 0 0,.slice none 0 0] 110)=w3 at *;have hw2:w2.alloc zn=w3:=by rw [hzn];exact hw1
   rw [hw2] at HS3 HC3 HP3 hsz3;clear hw1 hw2 hzn;go_wp2_with fail;refine (bE x w3).mono ?_;rintro e w4 ⟨rfl,hb⟩;have HS4:=hid (HS3.out.ch (S:=fun _=>False) (Ch.of_below hb) id id);have HC4:=hid (HC3.out.trans (Ch.of_below hb));have HP4:=hid (ab HP3.out hb);have HSZ4:=hb.size;clear hb;obtain ⟨p0,p1,p2,p3,p4⟩:=ak HP4.out;go_wp2_with fail;have hf:=aS HP4.out ([],[]);obtain ⟨z0,z1,-,-,-⟩:=ak hf;have y0:((w4.setCell ⟨w.heap.size+1,0,none⟩ (.string ⟨#[]⟩)).setCell ⟨w.heap.size+1,1,none⟩ (.string ⟨#[]⟩)).cell? ⟨w.heap.size+1,0,none⟩=some (.string ⟨#[]⟩):=z0;have y1:((w4.setCell ⟨w.heap.size+1,0,none⟩ (.string ⟨#[]⟩)).setCell ⟨w.heap.size+1,1,none⟩ (.string ⟨#[]⟩)).cell? ⟨w.heap.size+1,1,none⟩=some (.string ⟨#[]⟩):=z1;have HC0:=aN (S:=fun j=>j=w.heap.size+1) (Ch.refl _ w4) rfl (.string ⟨#[]⟩) (.string ⟨#[]⟩)
   exact bodyPost_ret (v:=.tuple #[.agg #[.string ⟨#[]⟩,.string ⟨#[]⟩],.bool false,.int .i64 x]) (by simp [results,Tryz.results80,go_sem,y0,y1]) rfl
    ⟨by rw [HV.out];rfl,by rw [HV.out];exact HS4.out.ch HC0 (by omega) (by omega),HC4.out.then HC0 (fun i hi=>.inr (by omega))⟩
 | ok n=>
   obtain ⟨v,rfl,ho⟩:=hp;have HNF:=hid ho.f;obtain ⟨vk,vc,vd,rfl,h1,h2,h3⟩:=ho.f;obtain ⟨hg,hsm⟩:=cW HX.out;have HSM:=hid hsm;have HGD:=hid hg;have HRF:=hid (show ∀ p:Nd→Pro (Option Pr),((aM at_).bind p).run s=(p n).run s2 from fun p=>ah HX.out);obtain ⟨A1,c1,rfl⟩:=Sl.len' h1.sl;obtain ⟨A2,c2,rfl⟩:=Sl.len' h2.sl;obtain ⟨A3,c3,rfl⟩:=Sl.len' h3.sl;have HKF1:=hid h1;clear ho h1 h2 h3 hg hsm hrz;have HX3:=hid (ag (w0:=w2) (g:=w2.heap.size) (o:=ar n (.slice A1 n.keys.length c1) (.slice A2 n.cells.length c2) (.slice A3 n.kids.length c3)) rfl);have HB3:=hid ((Below.refl _ w2).alloc (Nat.le_refl _) (ar n (.slice A1 n.keys.length c1) (.slice A2 n.cells.length c2) (.slice A3 n.kids.length c3)));have HS3:=hid (HS2.out.ch (S:=fun _=>False) (Ch.of_below HB3.out) id id);have HC3:=hid (HC2.out.trans (Ch.of_below HB3.out));have HL3:=hid (HCH.out _ _ HL2.out (Ch.of_below HB3.out));have HN3:=hid (HNF.out.keep HB3.out);have HK3:=hid (HKF1.out.keep HB3.out);have HQ3:=hid (ab HQ2.out HB3.out);have HP3:=hid (ab HP2.out HB3.out);have hsz3:w2.heap.size<(w2.alloc (ar n (.slice A1 n.keys.length c1) (.slice A2 n.cells.length c2) (.slice A3 n.kids.length c3))).heap.size:=by simp
   go_upto_region 2 with fail
   generalize hw1:w2.alloc (.cells #[.bool n.leaf,.slice A1 n.keys.length c1,.slice A2 n.cells.length c2,.slice A3 n.kids.length c3] 110)=w3 at *;have hw2:w2.alloc (ar n (.slice A1 n.keys.length c1) (.slice A2 n.cells.length c2) (.slice A3 n.kids.length c3))=w3:=hw1;rw [hw2] at HX3 HB3 HS3 HC3 HL3 HN3 HK3 HQ3 HP3 hsz3;clear hw1 hw2;cases f with
   | zero=>
     have HV:=hid (show (au sk 0 at_).run s=(s2,.err 30) from HRF.out _);have hl1:20<lv:=by have:=HLV.out;omega
     go_wp2_with fail;refine (bE 30 w3).mono ?_;rintro e w4 ⟨rfl,hb⟩;have HS4:=hid (HS3.out.ch (S:=fun _=>False) (Ch.of_below hb) id id);have HC4:=hid (HC3.out.trans (Ch.of_below hb));have HP4:=hid (ab HP3.out hb);have HSZ4:=hb.size;clear hb;obtain ⟨p0,p1,p2,p3,p4⟩:=ak HP4.out;go_wp2_with fail;have hf:=aS HP4.out ([],[]);obtain ⟨z0,z1,-,-,-⟩:=ak hf;have y0:((w4.setCell ⟨w.heap.size+1,0,none⟩ (.string ⟨#[]⟩)).setCell ⟨w.heap.size+1,1,none⟩ (.string ⟨#[]⟩)).cell? ⟨w.heap.size+1,0,none⟩=some (.string ⟨#[]⟩):=z0;have y1:((w4.setCell ⟨w.heap.size+1,0,none⟩ (.string ⟨#[]⟩)).setCell ⟨w.heap.size+1,1,none⟩ (.string ⟨#[]⟩)).cell? ⟨w.heap.size+1,1,none⟩=some (.string ⟨#[]⟩):=z1;have HC0:=aN (S:=fun j=>j=w.heap.size+1) (Ch.refl _ w4) rfl (.string ⟨#[]⟩) (.string ⟨#[]⟩)
     exact bodyPost_ret (v:=.tuple #[.agg #[.string ⟨#[]⟩,.string ⟨#[]⟩],.bool false,.int .i64 30]) (by simp [results,Tryz.results80,go_sem,y0,y1]) rfl
      ⟨by rw [HV.out];rfl,by rw [HV.out];exact HS4.out.ch HC0 (by omega) (by omega),HC4.out.then HC0 (fun i hi=>.inr (by omega))⟩
   | succ f=>
     have hl1:lv≤20:=by have:=HLV.out;omega
     obtain ⟨a0,a1,a2,a3,a4⟩:=aa HX3.out;obtain ⟨q0,q1,q2,q3⟩:=dh HQ3.out;cases hl:n.leaf
     ·rw [hl] at a0;have HRG:=hid (show (au sk (f+1) at_).run s=((au sk f (n.kids.getD (sk.kd n).toNat 0)).bind (dI sk (au sk f) n)).run s2 by
       rw [show au sk (f+1) at_=(aM at_).bind fun n=>if n.leaf then eR sk n else (au sk f (n.kids.getD (sk.kd n).toNat 0)).bind (dI sk (au sk f) n) from rfl,HRF.out,hl];rfl)
      have HKFN:=hid (HKF.out w3 n (.agg #[.bool n.leaf,.slice A1 n.keys.length c1,.slice A2 n.cells.length c2,.slice A3 n.kids.length c3]) HL3.out HN3.out.val HSM.out HGD.out);rw [hl] at HKFN;go_wp2_with fail;refine HKFN.out.mono ?_;rintro e w4 ⟨rfl,hb⟩;have HS4:=hid (HS3.out.ch (S:=fun _=>False) (Ch.of_below hb) id id);have HC4:=hid (HC3.out.trans (Ch.of_below hb));have HL4:=hid (HCH.out _ _ HL3.out (Ch.of_below hb));have HX4:=hid (ab HX3.out hb);have HQ4:=hid (ab HQ3.out hb);have HP4:=hid (ab HP3.out hb);have HN4:=hid (HN3.out.keep hb);have hsz4:=hb.size;clear hb a0 a1 a2 a3 a4 q0 q1 q2 q3;obtain ⟨hk1,hk2⟩:=HKD.out n HGD.out hl;obtain ⟨j,hj⟩:∃ j:Nat,sk.kd n=j:=⟨(sk.kd n).toNat,by omega⟩;have HJ:=hid hj;rw [hj] at hk1 hk2 ⊢;have hjk:j<n.kids.length:=by omega
      have HNX:=hid (show (au sk (f+1) at_).run s=((au sk f n.kids[j]).bind (dI sk (au sk f) n)).run s2 by
       rw [HRG.out,hj,Int.toNat_natCast,List.getD_eq_getElem?_getD,List.getElem?_eq_getElem hjk];rfl)
      have HKI:=hid (show SlF iC 1 w1.heap.size w4 (.slice A3 n.kids.length c3) n.kids by
       obtain ⟨vk,vc,vd,he,i1,i2,i3⟩:=HN4.out;injection he with he
       obtain ⟨rfl,rfl,rfl⟩:=kx he;exact i3)
      have HLVS:=hid (show lv+1=21 - (f:Int) by have:=HLV.out;omega);have hbd:=HSM.out.d;clear hj;obtain ⟨a0,a1,a2,a3,a4⟩:=aa HX4.out;rw [hl] at a0;obtain ⟨q0,q1,q2,q3⟩:=dh HQ4.out;obtain ⟨b,off,rfl,hbl,e0⟩:=HKI.out.sl.int2 hjk;have hfar:w1.heap.size≤b:=HKI.out.far b rfl;have HIA:=hid (fun (W:World) (h:Ch (fun k=>k=gs∨k=gm) w4 W) (hs:ShIs W gs gm s2)=>HIH.out f rfl n.kids[j] s2 W hs (HCH.out _ _ HL4.out h));rw [← HLVS.out] at HIA;have HNX0:=HNX;clear HNX;generalize hkq:n.kids[j]=kd at *;clear hkq;obtain ⟨⟨s5,a⟩,hx⟩:∃ x,(au sk f kd).run s2=x:=⟨_,rfl⟩;rw [hx] at HIA;have HX5:=hid hx;clear hx;have nW:IntKind.i64.wrap (lv+1)=lv+1:=IntWalk.i64_in _ (by omega);go_upto_region 12 with fail
      go_cut [12,15,16] from 70 to 82 (fun ev xv iv wx=>wy w4 gs gm s5 a ev xv iv wx)
      case first=>
       have HKW:=hid (show ∀ (wn:World),Ch (fun k=>k=gs∨k=gm) w4 wn→wn.cell? ⟨w.heap.size,0,none⟩=some (.func (.func 77) #[] #[.pointer (some ⟨b1,0,none⟩),.pointer (some ⟨b2,0,none⟩)])∧wn.cell? ⟨w.heap.size,1,none⟩=some (.func (.func 129) #[] #[.pointer (some ⟨b3,0,none⟩)])∧wn.cell? ⟨w.heap.size,2,none⟩=some (.int .i64 1)∧wn.cell? ⟨w2.heap.size,3,none⟩=some (.slice (some ⟨b,off,none⟩) n.kids.length c3)∧wn.cell? ⟨b,off+j,none⟩=some (.int .i64 kd) from fun wn h=>
        ⟨h.cell q0 (by simp only;omega),h.cell q1 (by simp only;omega),h.cell q2 (by simp only;omega),h.cell a3 (by simp only;omega),h.cell e0 (by simp only;omega)⟩)
       go_region_held3 (fun wn=>wn.cell? ⟨w.heap.size,0,none⟩=some (.func (.func 77) #[] #[.pointer (some ⟨b1,0,none⟩),.pointer (some ⟨b2,0,none⟩)])∧wn.cell? ⟨w.heap.size,1,none⟩=some (.func (.func 129) #[] #[.pointer (some ⟨b3,0,none⟩)])∧wn.cell? ⟨w.heap.size,2,none⟩=some (.int .i64 1)∧wn.cell? ⟨w2.heap.size,3,none⟩=some (.slice (some ⟨b,off,none⟩) n.kids.length c3)∧wn.cell? ⟨b,off+j,none⟩=some (.int .i64 kd))
        ((first | go_keep | exact HK5.out | exact HKW.out _ (Ch.alloc HH5.out _) | exact HKW.out _ (HH5.out.then (aN (S:=fun j=>j=w4.heap.size) (Ch.refl _ w5) rfl _ _) (fun i hi=>.inr (by omega)))))
        (first
        | (go_at_call 80
           refine (HIA.out w4.drew (Ch.refl _ w4).drew (HS4.out.ch (S:=fun _=>False) (Ch.refl _ w4).drew id id)).mono ?_;rintro e w5 ⟨rfl,hs,hc⟩;have HS5:=hid hs;have HH5:=hid ((Ch.refl _ w4).drew.trans hc);have HK5:=hid (HKW.out _ HH5.out);clear hs hc;simp only [dm])
        | (go_at_call 80
           refine (HIA.out (w4.alloc (dj ([],[]))).drew (Ch.alloc (Ch.refl _ w4) _).drew (HS4.out.ch (S:=fun _=>False) (Ch.alloc (Ch.refl _ w4) _).drew id id)).mono ?_;rintro e w5 ⟨rfl,hs,hc⟩;have HS5:=hid hs;have HH5:=hid ((Ch.alloc (Ch.refl _ w4) (dj ([],[]))).drew.trans hc);have HK5:=hid (HKW.out _ HH5.out);have HZ5:=hid (hc.keep (show (w4.alloc (dj ([],[]))).drew.heap[w4.heap.size]?=some (dj ([],[])) from ag (w0:=w4) rfl) (by omega));obtain ⟨p0,p1,p2,p3,p4⟩:=ak HZ5.out;clear hs hc;simp only [dm]))
       all_goals
        go_wp2_with fail;go_meet
        case rel=>first
         | exact ⟨w5.heap.size,rfl,ag rfl,rfl,rfl,HS5.out.ch (S:=fun _=>False) (Ch.alloc (Ch.refl _ w5) _) id id,Ch.alloc HH5.out _⟩
         | exact ⟨w4.heap.size,rfl,aS HZ5.out _,rfl,rfl,HS5.out.ch (aN (S:=fun j=>j=w4.heap.size) (Ch.refl _ w5) rfl _ _) (by omega) (by omega),HH5.out.then (aN (S:=fun j=>j=w4.heap.size) (Ch.refl _ w5) rfl _ _) (fun i hi=>.inr (by omega))⟩
      case rest=>
      obtain ⟨g5,rfl,hpb,rfl,rfl,hs5,hc5⟩:=hcut;have HS6:=hid hs5;have HC6:=hid (HC4.out.trans hc5);have HP6:=hid (hc5.keep HP4.out (by omega));have HX6:=hid (hc5.keep HX4.out (by omega));have HQ6:=hid (hc5.keep HQ4.out (by omega));have HL6:=hid (HCH.out _ _ HL4.out hc5);have HKI6:=hid (HKI.out.ch hc5 (fun k hk e=>by omega));have HG6:=hid hpb;have hsz6:=hc5.size;have hg6:=aj hpb;clear hs5 hc5 hpb a0 a1 a2 a3 a4 q0 q1 q2 q3 e0 hbl;have hnz:=Pro.NZ.run (au sk f kd) s2;rw [HX5.out] at hnz;rcases a with (_ | p) | x
      ·simp only [bQ,fA,fB] at HG6 ⊢;have HNN:=hid (show (au sk (f+1) at_).run s=(dI sk (au sk f) n none).run s5 by rw [HNX0.out,ah HX5.out]);obtain ⟨a0,a1,a2,a3,a4⟩:=aa HX6.out;rw [hl] at a0;obtain ⟨q0,q1,q2,q3⟩:=dh HQ6.out;have hsum:IntKind.i64.wrap ((j:Int)+1)=(j:Int)+1:=IntWalk.i64_in _ (by omega);obtain ⟨w6,hw6⟩:∃ w6:World,w6=wc:=⟨_,rfl⟩;subst hw6;go_upto_region 16 with fail
       clear hsum;generalize hjj:(j:Int)+1=jj;have HJJ:=hid hjj;have hjb:jj<9223372036854775807:=by omega
       by_cases h0:0≤jj∧jj<n.kids.length
       ·obtain ⟨h0,h1⟩:=h0;obtain ⟨j2,hj2⟩:∃ j2:Nat,jj=j2:=⟨jj.toNat,by omega⟩;clear hjj hjb;subst hj2;have hjk2:j2<n.kids.length:=by omega
        have HNX:=hid (show (au sk (f+1) at_).run s=(au sk f n.kids[j2]).run s5 by
         rw [HNN.out];unfold dI;simp only [HJ.out,HST.out,HJJ.out];rw [if_pos ⟨h0,h1⟩,Int.toNat_natCast,List.getD_eq_getElem?_getD,List.getElem?_eq_getElem hjk2];rfl)
        obtain ⟨b',off',he,hbl,e0⟩:=HKI6.out.sl.int2 hjk2;injection he with he
        injection he with he1 he2
        subst he1 he2;have hfar:w1.heap.size≤b:=HKI6.out.far b rfl;have hn1:¬ w2.heap.size=w.heap.size+1:=by omega
        have hn2:¬ b=w.heap.size+1:=by omega
        have hn3:¬ w.heap.size+1=w2.heap.size:=by omega
        have hn4:¬ w.heap.size+1=b:=by omega
        have HIB:=hid (fun (W:World) (h:Ch (fun k=>k=gs∨k=gm) w6 W) (hs:ShIs W gs gm s5)=>HIH.out f rfl n.kids[j2] s5 W hs (HCH.out _ _ HL6.out h));rw [← HLVS.out] at HIB;generalize n.kids[j2]=kd2 at *;obtain ⟨⟨s7,a⟩,hx⟩:∃ x,(au sk f kd2).run s5=x:=⟨_,rfl⟩;rw [hx] at HIB;have HV:=hid (HNX.out.trans hx);clear hx HNX;go_upto_region 18 with fail
        go_cut [9,10] from 83 to 120 (fun bv iv wx=>ww w gs gm (w.heap.size+1) s7 a bv iv wx)
        case first=>
         obtain ⟨p0,p1,p2,p3,p4⟩:=ak HP6.out
         have HKW:=hid (show ∀ (wn:World),Ch (fun k=>k=gs∨k=gm∨k=w.heap.size+1) w6 wn→wn.cell? ⟨w.heap.size,0,none⟩=some (.func (.func 77) #[] #[.pointer (some ⟨b1,0,none⟩),.pointer (some ⟨b2,0,none⟩)])∧wn.cell? ⟨w.heap.size,1,none⟩=some (.func (.func 129) #[] #[.pointer (some ⟨b3,0,none⟩)])∧wn.cell? ⟨w.heap.size,2,none⟩=some (.int .i64 1)∧wn.cell? ⟨w2.heap.size,3,none⟩=some (.slice (some ⟨b,off,none⟩) n.kids.length c3)∧wn.cell? ⟨b,off+j2,none⟩=some (.int .i64 kd2) from fun wn h=>
          ⟨h.cell q0 (by simp only;omega),h.cell q1 (by simp only;omega),h.cell q2 (by simp only;omega),h.cell a3 (by simp only;omega),h.cell e0 (by simp only;omega)⟩)
         go_region_held3 (fun wn=>wn.cell? ⟨w.heap.size,0,none⟩=some (.func (.func 77) #[] #[.pointer (some ⟨b1,0,none⟩),.pointer (some ⟨b2,0,none⟩)])∧wn.cell? ⟨w.heap.size,1,none⟩=some (.func (.func 129) #[] #[.pointer (some ⟨b3,0,none⟩)])∧wn.cell? ⟨w.heap.size,2,none⟩=some (.int .i64 1)∧wn.cell? ⟨w2.heap.size,3,none⟩=some (.slice (some ⟨b,off,none⟩) n.kids.length c3)∧wn.cell? ⟨b,off+j2,none⟩=some (.int .i64 kd2))
          ((first | go_keep | exact HK7.out | exact HKW.out _ (Ch.refl _ w6).drew | exact HKW.out _ (HA7.out.trans (aN (Ch.refl _ w7) (.inr (.inr rfl)) _ _)) | exact (HKW.out _ (HA7.out.trans (aN (Ch.refl _ w7) (.inr (.inr rfl)) _ _))).2.2.2.1 | exact (HKW.out _ (HA7.out.trans (aN (Ch.refl _ w7) (.inr (.inr rfl)) _ _))).2.2.2.2))
          (first
          | (go_at_call 80
             refine (HIB.out w6.drew (Ch.refl _ w6).drew (HS6.out.ch (S:=fun _=>False) (Ch.refl _ w6).drew id id)).mono ?_;rintro e w7 ⟨rfl,hs,hc⟩;have HS7:=hid hs;have HH7:=hid ((Ch.refl _ w6).drew.trans hc);have HA7:=hid (HH7.out.mono (S':=fun k=>k=gs∨k=gm∨k=w.heap.size+1) (fun k _ h=>h.elim .inl (fun h=>.inr (.inl h))));have HK7:=hid (HKW.out _ HA7.out);have HP7:=hid (HH7.out.keep HP6.out (by omega));have hsz7:=HH7.out.size;clear p0 p1 p2 p3 p4;obtain ⟨p0,p1,p2,p3,p4⟩:=ak HP7.out;clear hs hc;simp only [dm]))
         all_goals
          go_wp2_with fail;go_meet
          case rel=>exact ⟨aS HP7.out _,rfl,rfl,HS7.out.ch (aN (S:=fun j=>j=w.heap.size+1) (Ch.refl _ w7) rfl _ _) (by omega) (by omega),(HC6.out.trans HH7.out).then (aN (S:=fun j=>j=w.heap.size+1) (Ch.refl _ w7) rfl _ _) (fun i hi=>.inr (by omega))⟩
        case rest=>
        obtain ⟨hpb,rfl,rfl,hs7,hc7⟩:=hcut;obtain ⟨p0,p1,p2,p3,p4⟩:=ak hpb;go_wp2_with fail
        exact bodyPost_ret (v:=dm a) (by simp [results,Tryz.results80,go_sem,dm,p0,p1]) rfl
         ⟨by rw [HV.out],by rw [HV.out];exact hs7,hc7⟩
       ·have HV:=hid (show (au sk (f+1) at_).run s=(s5,.ok none) by
         rw [HNN.out];unfold dI;simp only [HJ.out,HST.out,HJJ.out];rw [if_neg h0];rfl)
        clear hjj;by_cases h1:jj<0
        ·clear h0;go_wp2_with fail;refine (bE 0 w6).mono ?_;rintro e w7 ⟨rfl,hb⟩;have HS7:=hid (HS6.out.ch (S:=fun _=>False) (Ch.of_below hb) id id);have HC7:=hid (HC6.out.trans (Ch.of_below hb));have HP7:=hid (ab HP6.out hb);have HSZ7:=hb.size;clear hb;obtain ⟨p0,p1,p2,p3,p4⟩:=ak HP7.out;go_wp2_with fail;have hf:=aS HP7.out ([],[]);obtain ⟨z0,z1,-,-,-⟩:=ak hf;have y0:((w7.setCell ⟨w.heap.size+1,0,none⟩ (.string ⟨#[]⟩)).setCell ⟨w.heap.size+1,1,none⟩ (.string ⟨#[]⟩)).cell? ⟨w.heap.size+1,0,none⟩=some (.string ⟨#[]⟩):=z0;have y1:((w7.setCell ⟨w.heap.size+1,0,none⟩ (.string ⟨#[]⟩)).setCell ⟨w.heap.size+1,1,none⟩ (.string ⟨#[]⟩)).cell? ⟨w.heap.size+1,1,none⟩=some (.string ⟨#[]⟩):=z1;have HC0:=aN (S:=fun j=>j=w.heap.size+1) (Ch.refl _ w7) rfl (.string ⟨#[]⟩) (.string ⟨#[]⟩)
         exact bodyPost_ret (v:=.tuple #[.agg #[.string ⟨#[]⟩,.string ⟨#[]⟩],.bool false,.int .i64 0]) (by simp [results,Tryz.results80,go_sem,y0,y1]) rfl
          ⟨by rw [HV.out];rfl,by rw [HV.out];exact HS7.out.ch HC0 (by omega) (by omega),HC7.out.then HC0 (fun i hi=>.inr (by omega))⟩
        ·have h2:(n.kids.length:Int)≤jj:=by omega
         have h3:(0:Int)≤jj:=by omega
         clear h0 h1;go_wp2_with fail;refine (bE 0 w6).mono ?_;rintro e w7 ⟨rfl,hb⟩;have HS7:=hid (HS6.out.ch (S:=fun _=>False) (Ch.of_below hb) id id);have HC7:=hid (HC6.out.trans (Ch.of_below hb));have HP7:=hid (ab HP6.out hb);have HSZ7:=hb.size;clear hb;obtain ⟨p0,p1,p2,p3,p4⟩:=ak HP7.out;go_wp2_with fail;have hf:=aS HP7.out ([],[]);obtain ⟨z0,z1,-,-,-⟩:=ak hf;have y0:((w7.setCell ⟨w.heap.size+1,0,none⟩ (.string ⟨#[]⟩)).setCell ⟨w.heap.size+1,1,none⟩ (.string ⟨#[]⟩)).cell? ⟨w.heap.size+1,0,none⟩=some (.string ⟨#[]⟩):=z0;have y1:((w7.setCell ⟨w.heap.size+1,0,none⟩ (.string ⟨#[]⟩)).setCell ⟨w.heap.size+1,1,none⟩ (.string ⟨#[]⟩)).cell? ⟨w.heap.size+1,1,none⟩=some (.string ⟨#[]⟩):=z1;have HC0:=aN (S:=fun j=>j=w.heap.size+1) (Ch.refl _ w7) rfl (.string ⟨#[]⟩) (.string ⟨#[]⟩)
         exact bodyPost_ret (v:=.tuple #[.agg #[.string ⟨#[]⟩,.string ⟨#[]⟩],.bool false,.int .i64 0]) (by simp [results,Tryz.results80,go_sem,y0,y1]) rfl
          ⟨by rw [HV.out];rfl,by rw [HV.out];exact HS7.out.ch HC0 (by omega) (by omega),HC7.out.then HC0 (fun i hi=>.inr (by omega))⟩
      ·simp only [bQ,fA,fB] at HG6 ⊢;have HV:=hid (show (au sk (f+1) at_).run s=(s5,.ok (some p)) by rw [HNX0.out,ah HX5.out];rfl);obtain ⟨p0,p1,p2,p3,p4⟩:=ak HP6.out;obtain ⟨g0,g1,g2,g3,g4⟩:=ak HG6.out;go_wp2_with fail;have hf:=aS HP6.out p;obtain ⟨z0,z1,-,-,-⟩:=ak hf;have HC0:=aN (S:=fun j=>j=w.heap.size+1) (Ch.refl _ wc) rfl (.string (ap p.1)) (.string (ap p.2))
       exact bodyPost_ret (v:=.tuple #[.agg #[.string (ap p.1),.string (ap p.2)],.bool true,.int .i64 0]) (by simp [results,Tryz.results80,go_sem,z0,z1]) rfl
        ⟨by rw [HV.out];rfl,by rw [HV.out];exact HS6.out.ch HC0 (by omega) (by omega),HC6.out.then HC0 (fun i hi=>.inr (by omega))⟩
      ·simp only [bQ,fA,fB] at HG6 ⊢;have hx0:¬ x=0:=hnz x (dK _ _ _) rfl;have hx1:(x == 0)=false:=by simpa using hx0
       have HV:=hid (show (au sk (f+1) at_).run s=(s5,.err x) by rw [HNX0.out,aq HX5.out]);obtain ⟨p0,p1,p2,p3,p4⟩:=ak HP6.out;obtain ⟨g0,g1,g2,g3,g4⟩:=ak HG6.out;go_wp2_with fail;have hf:=aS HP6.out ([],[]);obtain ⟨z0,z1,-,-,-⟩:=ak hf;have HC0:=aN (S:=fun j=>j=w.heap.size+1) (Ch.refl _ wc) rfl (.string (ap [])) (.string (ap []))
       exact bodyPost_ret (v:=.tuple #[.agg #[.string (ap []),.string (ap [])],.bool false,.int .i64 x]) (by simp [results,Tryz.results80,go_sem,z0,z1]) rfl
        ⟨by rw [HV.out];rfl,by rw [HV.out];exact HS6.out.ch HC0 (by omega) (by omega),HC6.out.then HC0 (fun i hi=>.inr (by omega))⟩
     ·rw [hl] at a0;have HRG:=hid (show (au sk (f+1) at_).run s=(eR sk n).run s2 by unfold au;rw [HRF.out,if_pos hl]);have HLFN:=hid (HLF.out w3 n (.agg #[.bool n.leaf,.slice A1 n.keys.length c1,.slice A2 n.cells.length c2,.slice A3 n.kids.length c3]) HL3.out HN3.out.val HSM.out HGD.out);rw [hl] at HLFN;have HCK:=hid (bW HGD.out hl).2.1;go_wp2_with fail;refine HLFN.out.mono ?_;rintro e w4 ⟨rfl,hb⟩;have HS4:=hid (HS3.out.ch (S:=fun _=>False) (Ch.of_below hb) id id);have HC4:=hid (HC3.out.trans (Ch.of_below hb));have HX4:=hid (ab HX3.out hb);have HP4:=hid (ab HP3.out hb);have HN4:=hid (HN3.out.keep hb);have HK4:=hid (HK3.out.keep hb);have hsz4:=hb.size;clear hb a0 a1 a2 a3 a4 q0 q1 q2 q3;obtain ⟨a0,a1,a2,a3,a4⟩:=aa HX4.out;rw [hl] at a0;by_cases h0:0≤sk.lf n∧sk.lf n<n.keys.length
      ·obtain ⟨i,hi⟩:∃ i:Nat,sk.lf n=i:=⟨(sk.lf n).toNat,by omega⟩;have HV0:=hid (show (au sk (f+1) at_).run s=(fZ n i).run s2 by
        rw [HRG.out];unfold eR;rw [if_pos h0,hi,Int.toNat_natCast];rfl)
       rw [hi];have hik:i<n.keys.length:=by omega
       have hi0:(0:Int)≤(i:Int):=by omega
       have hi1:(i:Int)<(n.keys.length:Int):=by omega
       have HPA:=hid (jq n i (.slice A1 n.keys.length c1) (.slice A2 n.cells.length c2) (.slice A3 n.kids.length c3) gs gm s2 w4 HS4.out (by
        obtain ⟨vk,vc,vd,he,i1,i2,i3⟩:=HN4.out;injection he with he
        obtain ⟨rfl,rfl,rfl⟩:=kx he;exact ⟨i1.sl,i2.sl,i3.sl⟩) HSM.out hik HCK.out _ HK4.out (by omega))
       rw [hl] at HPA;unfold bt at HPA;clear h0 hi;go_wp2_with fail;refine HPA.out.mono ?_;rintro e w5 ⟨rfl,hs,hc⟩;have HP5:=hid (hc.keep HP4.out (by omega));have HC5:=hid (HC4.out.trans hc);have hsz5:=hc.size;obtain ⟨⟨s5,a⟩,hx⟩:∃ x,(fZ n i).run s2=x:=⟨_,rfl⟩;rw [hx] at hs ⊢;have HV:=hid (HV0.out.trans hx);have HS5:=hid hs;clear hs hc a0 a1 a2 a3 a4 hx;obtain ⟨p0,p1,p2,p3,p4⟩:=ak HP5.out;unfold dm;go_wp2_with fail;have hf:=aS HP5.out (bQ a);obtain ⟨z0,z1,-,-,-⟩:=ak hf;have HC0:=aN (S:=fun j=>j=w.heap.size+1) (Ch.refl _ w5) rfl (.string (ap (bQ a).1)) (.string (ap (bQ a).2))
       exact bodyPost_ret (v:=dm a) (by simp [results,Tryz.results80,go_sem,dm,z0,z1]) rfl
        ⟨by rw [HV.out],by rw [HV.out];exact HS5.out.ch HC0 (by omega) (by omega),HC5.out.then HC0 (fun i hi=>.inr (by omega))⟩
      ·have HV:=hid (show (au sk (f+1) at_).run s=(s2,.ok none) by
        rw [HRG.out];unfold eR;rw [if_neg h0];rfl)
       by_cases h1:sk.lf n<0
       ·clear h0;go_wp2_with fail;refine (bE 0 w4).mono ?_;rintro e w5 ⟨rfl,hb⟩;have HS5:=hid (HS4.out.ch (S:=fun _=>False) (Ch.of_below hb) id id);have HC5:=hid (HC4.out.trans (Ch.of_below hb));have HP5:=hid (ab HP4.out hb);have HSZ5:=hb.size;clear hb;obtain ⟨p0,p1,p2,p3,p4⟩:=ak HP5.out;go_wp2_with fail;have hf:=aS HP5.out ([],[]);obtain ⟨z0,z1,-,-,-⟩:=ak hf;have y0:((w5.setCell ⟨w.heap.size+1,0,none⟩ (.string ⟨#[]⟩)).setCell ⟨w.heap.size+1,1,none⟩ (.string ⟨#[]⟩)).cell? ⟨w.heap.size+1,0,none⟩=some (.string ⟨#[]⟩):=z0;have y1:((w5.setCell ⟨w.heap.size+1,0,none⟩ (.string ⟨#[]⟩)).setCell ⟨w.heap.size+1,1,none⟩ (.string ⟨#[]⟩)).cell? ⟨w.heap.size+1,1,none⟩=some (.string ⟨#[]⟩):=z1;have HC0:=aN (S:=fun j=>j=w.heap.size+1) (Ch.refl _ w5) rfl (.string ⟨#[]⟩) (.string ⟨#[]⟩)
        exact bodyPost_ret (v:=.tuple #[.agg #[.string ⟨#[]⟩,.string ⟨#[]⟩],.bool false,.int .i64 0]) (by simp [results,Tryz.results80,go_sem,y0,y1]) rfl
         ⟨by rw [HV.out];rfl,by rw [HV.out];exact HS5.out.ch HC0 (by omega) (by omega),HC5.out.then HC0 (fun i hi=>.inr (by omega))⟩
       ·have h2:(n.keys.length:Int)≤sk.lf n:=by omega
        have h3:(0:Int)≤sk.lf n:=by omega
        clear h0 h1;go_wp2_with fail;refine (bE 0 w4).mono ?_;rintro e w5 ⟨rfl,hb⟩;have HS5:=hid (HS4.out.ch (S:=fun _=>False) (Ch.of_below hb) id id);have HC5:=hid (HC4.out.trans (Ch.of_below hb));have HP5:=hid (ab HP4.out hb);have HSZ5:=hb.size;clear hb;obtain ⟨p0,p1,p2,p3,p4⟩:=ak HP5.out;go_wp2_with fail;have hf:=aS HP5.out ([],[]);obtain ⟨z0,z1,-,-,-⟩:=ak hf;have y0:((w5.setCell ⟨w.heap.size+1,0,none⟩ (.string ⟨#[]⟩)).setCell ⟨w.heap.size+1,1,none⟩ (.string ⟨#[]⟩)).cell? ⟨w.heap.size+1,0,none⟩=some (.string ⟨#[]⟩):=z0;have y1:((w5.setCell ⟨w.heap.size+1,0,none⟩ (.string ⟨#[]⟩)).setCell ⟨w.heap.size+1,1,none⟩ (.string ⟨#[]⟩)).cell? ⟨w.heap.size+1,1,none⟩=some (.string ⟨#[]⟩):=z1;have HC0:=aN (S:=fun j=>j=w.heap.size+1) (Ch.refl _ w5) rfl (.string ⟨#[]⟩) (.string ⟨#[]⟩)
        exact bodyPost_ret (v:=.tuple #[.agg #[.string ⟨#[]⟩,.string ⟨#[]⟩],.bool false,.int .i64 0]) (by simp [results,Tryz.results80,go_sem,y0,y1]) rfl
         ⟨by rw [HV.out];rfl,by rw [HV.out];exact HS5.out.ch HC0 (by omega) (by omega),HC5.out.then HC0 (fun i hi=>.inr (by omega))⟩
theorem qj (LK:World→Prop) (sk:Sk) (b1 b2 b3 gs gm:Nat) (hst:sk.step=(-1))
  (hlf:∀ W n v,LK W→NdV W v n→n.Sm 229→aF n=true→Calls Tryz.prog 81 #[v,.pointer (some ⟨b1,0,none⟩),.pointer (some ⟨b2,0,none⟩)] W fun e w'=>e=.returned (.int .i64 (sk.lf n))∧Below W.heap.size W w')
  (hkf:∀ W n v,LK W→NdV W v n→n.Sm 229→aF n=true→Calls Tryz.prog 129 #[v,.pointer (some ⟨b3,0,none⟩)] W fun e w'=>e=.returned (.int .i64 (sk.kd n))∧Below W.heap.size W w')
  (hch:∀ W W',LK W→Ch (fun k=>k=gs∨k=gm) W W'→LK W')
  (hkd:∀ n,aF n=true→n.leaf=false→0≤sk.kd n∧sk.kd n<n.kids.length)
  (f:Nat) (hf:f≤20) (at_:Int) (s:Sf) (w:World) (hS:ShIs w gs gm s) (hL:LK w)
  (ih:∀ f',f'+1=f→∀ at_ s w,ShIs w gs gm s→LK w→Calls Tryz.prog 80 #[.agg #[.func (.func 81) #[] #[.pointer (some ⟨b1,0,none⟩),.pointer (some ⟨b2,0,none⟩)],.func (.func 129) #[] #[.pointer (some ⟨b3,0,none⟩)],.int .i64 (-1)],bt gs,.int .i64 at_,.int .i64 (21 - f':Int)] w fun e w'=>e=.returned (dm ((au sk f' at_).run s).2)∧ShIs w' gs gm ((au sk f' at_).run s).1∧Ch (fun k=>k=gs∨k=gm) w w'):
  Calls Tryz.prog 80 #[.agg #[.func (.func 81) #[] #[.pointer (some ⟨b1,0,none⟩),.pointer (some ⟨b2,0,none⟩)],.func (.func 129) #[] #[.pointer (some ⟨b3,0,none⟩)],.int .i64 (-1)],bt gs,.int .i64 at_,.int .i64 (21 - f:Int)] w fun e w'=>e=.returned (dm ((au sk f at_).run s).2)∧ShIs w' gs gm ((au sk f at_).run s).1∧Ch (fun k=>k=gs∨k=gm) w w':=by
 have HIH:=hid ih;have HST:=hid hst;have HLF:=hid hlf;have HKF:=hid hkf;have HCH:=hid hch;have HKD:=hid hkd;have hgs:=aj hS.blk;have hgm:=hS.book.lt;generalize hlv:(21 - (f:Int))=lv at *;have HLV:=hid hlv;have hlv0:1≤lv:=by omega
 have hlv1:lv≤21:=by omega
 have HW1:=hid (((Below.refl _ w).alloc (Nat.le_refl _) (iA (.func (.func 81) #[] #[.pointer (some ⟨b1,0,none⟩),.pointer (some ⟨b2,0,none⟩)]) (.func (.func 129) #[] #[.pointer (some ⟨b3,0,none⟩)]) (-1))).alloc (by simp) (dj ([],[])));have HQ1:=hid (ai (ag (w0:=w) (g:=w.heap.size) (o:=iA (.func (.func 81) #[] #[.pointer (some ⟨b1,0,none⟩),.pointer (some ⟨b2,0,none⟩)]) (.func (.func 129) #[] #[.pointer (some ⟨b3,0,none⟩)]) (-1)) rfl) (dj ([],[])));have HP1:=hid (ag (w0:=w.alloc (iA (.func (.func 81) #[] #[.pointer (some ⟨b1,0,none⟩),.pointer (some ⟨b2,0,none⟩)]) (.func (.func 129) #[] #[.pointer (some ⟨b3,0,none⟩)]) (-1))) (g:=w.heap.size+1) (o:=dj ([],[])) (by simp));have HSZ:=hid (show ((w.alloc (iA (.func (.func 81) #[] #[.pointer (some ⟨b1,0,none⟩),.pointer (some ⟨b2,0,none⟩)]) (.func (.func 129) #[] #[.pointer (some ⟨b3,0,none⟩)]) (-1))).alloc (dj ([],[]))).heap.size=w.heap.size+2 by simp);have HS1:=hid (hS.ch (S:=fun _=>False) (Ch.of_below HW1.out) id id);have HL1:=hid (hch _ _ hL (Ch.of_below HW1.out));have HC1:=hid (Ch.of_below (S:=fun k=>k=gs∨k=gm) HW1.out);clear hS hL ih hlv hst hlf hkf hch hkd;unfold bt at HIH ⊢;go_enter Tryz.func80,Tryz.ntmps80;go_upto_region 1 with fail
 generalize hw1:(w.alloc (.cells #[.func (.func 81) #[] #[.pointer (some ⟨b1,0,none⟩),.pointer (some ⟨b2,0,none⟩)],.func (.func 129) #[] #[.pointer (some ⟨b3,0,none⟩)],.int .i64 (-1)] 140)).alloc (.cells #[.string ⟨#[]⟩,.string ⟨#[]⟩] 62)=w1 at *;have hw2:(w.alloc (iA (.func (.func 81) #[] #[.pointer (some ⟨b1,0,none⟩),.pointer (some ⟨b2,0,none⟩)]) (.func (.func 129) #[] #[.pointer (some ⟨b3,0,none⟩)]) (-1))).alloc (dj ([],[]))=w1:=hw1;rw [hw2] at HW1 HQ1 HP1 HSZ HS1 HL1 HC1;clear hw1 hw2;have HRD:=hid (jp at_ gs gm s w1 HS1.out);unfold bt at HRD;go_wp2_with fail;refine HRD.out.mono ?_;rintro e w2 ⟨hp,hs,hc⟩;have hrz:=bF (a:=at_) (s:=s);obtain ⟨⟨s2,a⟩,hx⟩:∃ x,(aM at_).run s=x:=⟨_,rfl⟩;rw [hx] at hp hs hrz;have HS2:=hid hs;have HC2:=hid (HC1.out.trans hc);have HL2:=hid (HCH.out _ _ HL1.out hc);have hsz1:=HSZ.out;have HQ2:=hid (hc.keep HQ1.out (by omega));have HP2:=hid (hc.keep HP1.out (by omega));have HX:=hid hx;have hsz2:=hc.size;clear hs hc hx HRD;cases a with
 | err x=>
   obtain rfl:=hp;have hx0:¬ x=0:=hrz x rfl;have hx1:(x == 0)=false:=by simpa using hx0
   have HV:=hid (show (au sk f at_).run s=(s2,.err x) by
    cases f with
    | zero=>exact aq HX.out
    | succ f=>unfold au;exact aq HX.out)
   obtain ⟨zn,hzn⟩:∃ o,o=ar Nd.zero (.slice none 0 0) (.slice none 0 0) (.slice none 0 0):=⟨_,rfl⟩;have HS3:=hid (HS2.out.ch (S:=fun _=>False) (Ch.alloc (Ch.refl _ w2) zn) id id);have HC3:=hid (Ch.alloc HC2.out zn);have HP3:=hid (ai HP2.out zn);have hsz3:w2.heap.size<(w2.alloc zn).heap.size:=by simp
   simp only [k8];go_upto_region 2 with fail
   generalize hw1:w2.alloc (.cells #[.bool false,.slice none 0 0,.slice none 0 0,.slice none 0 0] 110)=w3 at *;have hw2:w2.alloc zn=w3:=by rw [hzn];exact hw1
   rw [hw2] at HS3 HC3 HP3 hsz3;clear hw1 hw2 hzn;go_wp2_with fail;refine (bE x w3).mono ?_;rintro e w4 ⟨rfl,hb⟩;have HS4:=hid (HS3.out.ch (S:=fun _=>False) (Ch.of_below hb) id id);have HC4:=hid (HC3.out.trans (Ch.of_below hb));have HP4:=hid (ab HP3.out hb);have HSZ4:=hb.size;clear hb;obtain ⟨p0,p1,p2,p3,p4⟩:=ak HP4.out;go_wp2_with fail;have hf:=aS HP4.out ([],[]);obtain ⟨z0,z1,-,-,-⟩:=ak hf;have y0:((w4.setCell ⟨w.heap.size+1,0,none⟩ (.string ⟨#[]⟩)).setCell ⟨w.heap.size+1,1,none⟩ (.string ⟨#[]⟩)).cell? ⟨w.heap.size+1,0,none⟩=some (.string ⟨#[]⟩):=z0;have y1:((w4.setCell ⟨w.heap.size+1,0,none⟩ (.string ⟨#[]⟩)).setCell ⟨w.heap.size+1,1,none⟩ (.string ⟨#[]⟩)).cell? ⟨w.heap.size+1,1,none⟩=some (.string ⟨#[]⟩):=z1;have HC0:=aN (S:=fun j=>j=w.heap.size+1) (Ch.refl _ w4) rfl (.string ⟨#[]⟩) (.string ⟨#[]⟩)
   exact bodyPost_ret (v:=.tuple #[.agg #[.string ⟨#[]⟩,.string ⟨#[]⟩],.bool false,.int .i64 x]) (by simp [results,Tryz.results80,go_sem,y0,y1]) rfl
    ⟨by rw [HV.out];rfl,by rw [HV.out];exact HS4.out.ch HC0 (by omega) (by omega),HC4.out.then HC0 (fun i hi=>.inr (by omega))⟩
 | ok n=>
   obtain ⟨v,rfl,ho⟩:=hp;have HNF:=hid ho.f;obtain ⟨vk,vc,vd,rfl,h1,h2,h3⟩:=ho.f;obtain ⟨hg,hsm⟩:=cW HX.out;have HSM:=hid hsm;have HGD:=hid hg;have HRF:=hid (show ∀ p:Nd→Pro (Option Pr),((aM at_).bind p).run s=(p n).run s2 from fun p=>ah HX.out);obtain ⟨A1,c1,rfl⟩:=Sl.len' h1.sl;obtain ⟨A2,c2,rfl⟩:=Sl.len' h2.sl;obtain ⟨A3,c3,rfl⟩:=Sl.len' h3.sl;have HKF1:=hid h1;clear ho h1 h2 h3 hg hsm hrz;have HX3:=hid (ag (w0:=w2) (g:=w2.heap.size) (o:=ar n (.slice A1 n.keys.length c1) (.slice A2 n.cells.length c2) (.slice A3 n.kids.length c3)) rfl);have HB3:=hid ((Below.refl _ w2).alloc (Nat.le_refl _) (ar n (.slice A1 n.keys.length c1) (.slice A2 n.cells.length c2) (.slice A3 n.kids.length c3)));have HS3:=hid (HS2.out.ch (S:=fun _=>False) (Ch.of_below HB3.out) id id);have HC3:=hid (HC2.out.trans (Ch.of_below HB3.out));have HL3:=hid (HCH.out _ _ HL2.out (Ch.of_below HB3.out));have HN3:=hid (HNF.out.keep HB3.out);have HK3:=hid (HKF1.out.keep HB3.out);have HQ3:=hid (ab HQ2.out HB3.out);have HP3:=hid (ab HP2.out HB3.out);have hsz3:w2.heap.size<(w2.alloc (ar n (.slice A1 n.keys.length c1) (.slice A2 n.cells.length c2) (.slice A3 n.kids.length c3))).heap.size:=by simp
   go_upto_region 2 with fail
   generalize hw1:w2.alloc (.cells #[.bool n.leaf,.slice A1 n.keys.length c1,.slice A2 n.cells.length c2,.slice A3 n.kids.length c3] 110)=w3 at *;have hw2:w2.alloc (ar n (.slice A1 n.keys.length c1) (.slice A2 n.cells.length c2) (.slice A3 n.kids.length c3))=w3:=hw1;rw [hw2] at HX3 HB3 HS3 HC3 HL3 HN3 HK3 HQ3 HP3 hsz3;clear hw1 hw2;cases f with
   | zero=>
     have HV:=hid (show (au sk 0 at_).run s=(s2,.err 30) from HRF.out _);have hl1:20<lv:=by have:=HLV.out;omega
     go_wp2_with fail;refine (bE 30 w3).mono ?_;rintro e w4 ⟨rfl,hb⟩;have HS4:=hid (HS3.out.ch (S:=fun _=>False) (Ch.of_below hb) id id);have HC4:=hid (HC3.out.trans (Ch.of_below hb));have HP4:=hid (ab HP3.out hb);have HSZ4:=hb.size;clear hb;obtain ⟨p0,p1,p2,p3,p4⟩:=ak HP4.out;go_wp2_with fail;have hf:=aS HP4.out ([],[]);obtain ⟨z0,z1,-,-,-⟩:=ak hf;have y0:((w4.setCell ⟨w.heap.size+1,0,none⟩ (.string ⟨#[]⟩)).setCell ⟨w.heap.size+1,1,none⟩ (.string ⟨#[]⟩)).cell? ⟨w.heap.size+1,0,none⟩=some (.string ⟨#[]⟩):=z0;have y1:((w4.setCell ⟨w.heap.size+1,0,none⟩ (.string ⟨#[]⟩)).setCell ⟨w.heap.size+1,1,none⟩ (.string ⟨#[]⟩)).cell? ⟨w.heap.size+1,1,none⟩=some (.string ⟨#[]⟩):=z1;have HC0:=aN (S:=fun j=>j=w.heap.size+1) (Ch.refl _ w4) rfl (.string ⟨#[]⟩) (.string ⟨#[]⟩)
     exact bodyPost_ret (v:=.tuple #[.agg #[.string ⟨#[]⟩,.string ⟨#[]⟩],.bool false,.int .i64 30]) (by simp [results,Tryz.results80,go_sem,y0,y1]) rfl
      ⟨by rw [HV.out];rfl,by rw [HV.out];exact HS4.out.ch HC0 (by omega) (by omega),HC4.out.then HC0 (fun i hi=>.inr (by omega))⟩
   | succ f=>
     have hl1:lv≤20:=by have:=HLV.out;omega
     obtain ⟨a0,a1,a2,a3,a4⟩:=aa HX3.out;obtain ⟨q0,q1,q2,q3⟩:=dh HQ3.out;cases hl:n.leaf
     ·rw [hl] at a0;have HRG:=hid (show (au sk (f+1) at_).run s=((au sk f (n.kids.getD (sk.kd n).toNat 0)).bind (dI sk (au sk f) n)).run s2 by
       rw [show au sk (f+1) at_=(aM at_).bind fun n=>if n.leaf then eR sk n else (au sk f (n.kids.getD (sk.kd n).toNat 0)).bind (dI sk (au sk f) n) from rfl,HRF.out,hl];rfl)
      have HKFN:=hid (HKF.out w3 n (.agg #[.bool n.leaf,.slice A1 n.keys.length c1,.slice A2 n.cells.length c2,.slice A3 n.kids.length c3]) HL3.out HN3.out.val HSM.out HGD.out);rw [hl] at HKFN;go_wp2_with fail;refine HKFN.out.mono ?_;rintro e w4 ⟨rfl,hb⟩;have HS4:=hid (HS3.out.ch (S:=fun _=>False) (Ch.of_below hb) id id);have HC4:=hid (HC3.out.trans (Ch.of_below hb));have HL4:=hid (HCH.out _ _ HL3.out (Ch.of_below hb));have HX4:=hid (ab HX3.out hb);have HQ4:=hid (ab HQ3.out hb);have HP4:=hid (ab HP3.out hb);have HN4:=hid (HN3.out.keep hb);have hsz4:=hb.size;clear hb a0 a1 a2 a3 a4 q0 q1 q2 q3;obtain ⟨hk1,hk2⟩:=HKD.out n HGD.out hl;obtain ⟨j,hj⟩:∃ j:Nat,sk.kd n=j:=⟨(sk.kd n).toNat,by omega⟩;have HJ:=hid hj;rw [hj] at hk1 hk2 ⊢;have hjk:j<n.kids.length:=by omega
      have HNX:=hid (show (au sk (f+1) at_).run s=((au sk f n.kids[j]).bind (dI sk (au sk f) n)).run s2 by
       rw [HRG.out,hj,Int.toNat_natCast,List.getD_eq_getElem?_getD,List.getElem?_eq_getElem hjk];rfl)
      have HKI:=hid (show SlF iC 1 w1.heap.size w4 (.slice A3 n.kids.length c3) n.kids by
       obtain ⟨vk,vc,vd,he,i1,i2,i3⟩:=HN4.out;injection he with he
       obtain ⟨rfl,rfl,rfl⟩:=kx he;exact i3)
      have HLVS:=hid (show lv+1=21 - (f:Int) by have:=HLV.out;omega);have hbd:=HSM.out.d;clear hj;obtain ⟨a0,a1,a2,a3,a4⟩:=aa HX4.out;rw [hl] at a0;obtain ⟨q0,q1,q2,q3⟩:=dh HQ4.out;obtain ⟨b,off,rfl,hbl,e0⟩:=HKI.out.sl.int2 hjk;have hfar:w1.heap.size≤b:=HKI.out.far b rfl;have HIA:=hid (fun (W:World) (h:Ch (fun k=>k=gs∨k=gm) w4 W) (hs:ShIs W gs gm s2)=>HIH.out f rfl n.kids[j] s2 W hs (HCH.out _ _ HL4.out h));rw [← HLVS.out] at HIA;have HNX0:=HNX;clear HNX;generalize hkq:n.kids[j]=kd at *;clear hkq;obtain ⟨⟨s5,a⟩,hx⟩:∃ x,(au sk f kd).run s2=x:=⟨_,rfl⟩;rw [hx] at HIA;have HX5:=hid hx;clear hx;have nW:IntKind.i64.wrap (lv+1)=lv+1:=IntWalk.i64_in _ (by omega);go_upto_region 12 with fail
      go_cut [12,15,16] from 70 to 82 (fun ev xv iv wx=>wy w4 gs gm s5 a ev xv iv wx)
      case first=>
       have HKW:=hid (show ∀ (wn:World),Ch (fun k=>k=gs∨k=gm) w4 wn→wn.cell? ⟨w.heap.size,0,none⟩=some (.func (.func 81) #[] #[.pointer (some ⟨b1,0,none⟩),.pointer (some ⟨b2,0,none⟩)])∧wn.cell? ⟨w.heap.size,1,none⟩=some (.func (.func 129) #[] #[.pointer (some ⟨b3,0,none⟩)])∧wn.cell? ⟨w.heap.size,2,none⟩=some (.int .i64 (-1))∧wn.cell? ⟨w2.heap.size,3,none⟩=some (.slice (some ⟨b,off,none⟩) n.kids.length c3)∧wn.cell? ⟨b,off+j,none⟩=some (.int .i64 kd) from fun wn h=>
        ⟨h.cell q0 (by simp only;omega),h.cell q1 (by simp only;omega),h.cell q2 (by simp only;omega),h.cell a3 (by simp only;omega),h.cell e0 (by simp only;omega)⟩)
       go_region_held3 (fun wn=>wn.cell? ⟨w.heap.size,0,none⟩=some (.func (.func 81) #[] #[.pointer (some ⟨b1,0,none⟩),.pointer (some ⟨b2,0,none⟩)])∧wn.cell? ⟨w.heap.size,1,none⟩=some (.func (.func 129) #[] #[.pointer (some ⟨b3,0,none⟩)])∧wn.cell? ⟨w.heap.size,2,none⟩=some (.int .i64 (-1))∧wn.cell? ⟨w2.heap.size,3,none⟩=some (.slice (some ⟨b,off,none⟩) n.kids.length c3)∧wn.cell? ⟨b,off+j,none⟩=some (.int .i64 kd))
        ((first | go_keep | exact HK5.out | exact HKW.out _ (Ch.alloc HH5.out _) | exact HKW.out _ (HH5.out.then (aN (S:=fun j=>j=w4.heap.size) (Ch.refl _ w5) rfl _ _) (fun i hi=>.inr (by omega)))))
        (first
        | (go_at_call 80
           refine (HIA.out w4.drew (Ch.refl _ w4).drew (HS4.out.ch (S:=fun _=>False) (Ch.refl _ w4).drew id id)).mono ?_;rintro e w5 ⟨rfl,hs,hc⟩;have HS5:=hid hs;have HH5:=hid ((Ch.refl _ w4).drew.trans hc);have HK5:=hid (HKW.out _ HH5.out);clear hs hc;simp only [dm])
        | (go_at_call 80
           refine (HIA.out (w4.alloc (dj ([],[]))).drew (Ch.alloc (Ch.refl _ w4) _).drew (HS4.out.ch (S:=fun _=>False) (Ch.alloc (Ch.refl _ w4) _).drew id id)).mono ?_;rintro e w5 ⟨rfl,hs,hc⟩;have HS5:=hid hs;have HH5:=hid ((Ch.alloc (Ch.refl _ w4) (dj ([],[]))).drew.trans hc);have HK5:=hid (HKW.out _ HH5.out);have HZ5:=hid (hc.keep (show (w4.alloc (dj ([],[]))).drew.heap[w4.heap.size]?=some (dj ([],[])) from ag (w0:=w4) rfl) (by omega));obtain ⟨p0,p1,p2,p3,p4⟩:=ak HZ5.out;clear hs hc;simp only [dm]))
       all_goals
        go_wp2_with fail;go_meet
        case rel=>first
         | exact ⟨w5.heap.size,rfl,ag rfl,rfl,rfl,HS5.out.ch (S:=fun _=>False) (Ch.alloc (Ch.refl _ w5) _) id id,Ch.alloc HH5.out _⟩
         | exact ⟨w4.heap.size,rfl,aS HZ5.out _,rfl,rfl,HS5.out.ch (aN (S:=fun j=>j=w4.heap.size) (Ch.refl _ w5) rfl _ _) (by omega) (by omega),HH5.out.then (aN (S:=fun j=>j=w4.heap.size) (Ch.refl _ w5) rfl _ _) (fun i hi=>.inr (by omega))⟩
      case rest=>
      obtain ⟨g5,rfl,hpb,rfl,rfl,hs5,hc5⟩:=hcut;have HS6:=hid hs5;have HC6:=hid (HC4.out.trans hc5);have HP6:=hid (hc5.keep HP4.out (by omega));have HX6:=hid (hc5.keep HX4.out (by omega));have HQ6:=hid (hc5.keep HQ4.out (by omega));have HL6:=hid (HCH.out _ _ HL4.out hc5);have HKI6:=hid (HKI.out.ch hc5 (fun k hk e=>by omega));have HG6:=hid hpb;have hsz6:=hc5.size;have hg6:=aj hpb;clear hs5 hc5 hpb a0 a1 a2 a3 a4 q0 q1 q2 q3 e0 hbl;have hnz:=Pro.NZ.run (au sk f kd) s2;rw [HX5.out] at hnz;rcases a with (_ | p) | x
      ·simp only [bQ,fA,fB] at HG6 ⊢;have HNN:=hid (show (au sk (f+1) at_).run s=(dI sk (au sk f) n none).run s5 by rw [HNX0.out,ah HX5.out]);obtain ⟨a0,a1,a2,a3,a4⟩:=aa HX6.out;rw [hl] at a0;obtain ⟨q0,q1,q2,q3⟩:=dh HQ6.out;have hsum:IntKind.i64.wrap ((j:Int)+(-1))=(j:Int)+(-1):=IntWalk.i64_in _ (by omega);obtain ⟨w6,hw6⟩:∃ w6:World,w6=wc:=⟨_,rfl⟩;subst hw6;go_upto_region 16 with fail
       clear hsum;generalize hjj:(j:Int)+(-1)=jj;have HJJ:=hid hjj;have hjb:jj<9223372036854775807:=by omega
       by_cases h0:0≤jj∧jj<n.kids.length
       ·obtain ⟨h0,h1⟩:=h0;obtain ⟨j2,hj2⟩:∃ j2:Nat,jj=j2:=⟨jj.toNat,by omega⟩;clear hjj hjb;subst hj2;have hjk2:j2<n.kids.length:=by omega
        have HNX:=hid (show (au sk (f+1) at_).run s=(au sk f n.kids[j2]).run s5 by
         rw [HNN.out];unfold dI;simp only [HJ.out,HST.out,HJJ.out];rw [if_pos ⟨h0,h1⟩,Int.toNat_natCast,List.getD_eq_getElem?_getD,List.getElem?_eq_getElem hjk2];rfl)
        obtain ⟨b',off',he,hbl,e0⟩:=HKI6.out.sl.int2 hjk2;injection he with he
        injection he with he1 he2
        subst he1 he2;have hfar:w1.heap.size≤b:=HKI6.out.far b rfl;have hn1:¬ w2.heap.size=w.heap.size+1:=by omega
        have hn2:¬ b=w.heap.size+1:=by omega
        have hn3:¬ w.heap.size+1=w2.heap.size:=by omega
        have hn4:¬ w.heap.size+1=b:=by omega
        have HIB:=hid (fun (W:World) (h:Ch (fun k=>k=gs∨k=gm) w6 W) (hs:ShIs W gs gm s5)=>HIH.out f rfl n.kids[j2] s5 W hs (HCH.out _ _ HL6.out h));rw [← HLVS.out] at HIB;generalize n.kids[j2]=kd2 at *;obtain ⟨⟨s7,a⟩,hx⟩:∃ x,(au sk f kd2).run s5=x:=⟨_,rfl⟩;rw [hx] at HIB;have HV:=hid (HNX.out.trans hx);clear hx HNX;go_upto_region 18 with fail
        go_cut [9,10] from 83 to 120 (fun bv iv wx=>ww w gs gm (w.heap.size+1) s7 a bv iv wx)
        case first=>
         obtain ⟨p0,p1,p2,p3,p4⟩:=ak HP6.out
         have HKW:=hid (show ∀ (wn:World),Ch (fun k=>k=gs∨k=gm∨k=w.heap.size+1) w6 wn→wn.cell? ⟨w.heap.size,0,none⟩=some (.func (.func 81) #[] #[.pointer (some ⟨b1,0,none⟩),.pointer (some ⟨b2,0,none⟩)])∧wn.cell? ⟨w.heap.size,1,none⟩=some (.func (.func 129) #[] #[.pointer (some ⟨b3,0,none⟩)])∧wn.cell? ⟨w.heap.size,2,none⟩=some (.int .i64 (-1))∧wn.cell? ⟨w2.heap.size,3,none⟩=some (.slice (some ⟨b,off,none⟩) n.kids.length c3)∧wn.cell? ⟨b,off+j2,none⟩=some (.int .i64 kd2) from fun wn h=>
          ⟨h.cell q0 (by simp only;omega),h.cell q1 (by simp only;omega),h.cell q2 (by simp only;omega),h.cell a3 (by simp only;omega),h.cell e0 (by simp only;omega)⟩)
         go_region_held3 (fun wn=>wn.cell? ⟨w.heap.size,0,none⟩=some (.func (.func 81) #[] #[.pointer (some ⟨b1,0,none⟩),.pointer (some ⟨b2,0,none⟩)])∧wn.cell? ⟨w.heap.size,1,none⟩=some (.func (.func 129) #[] #[.pointer (some ⟨b3,0,none⟩)])∧wn.cell? ⟨w.heap.size,2,none⟩=some (.int .i64 (-1))∧wn.cell? ⟨w2.heap.size,3,none⟩=some (.slice (some ⟨b,off,none⟩) n.kids.length c3)∧wn.cell? ⟨b,off+j2,none⟩=some (.int .i64 kd2))
          ((first | go_keep | exact HK7.out | exact HKW.out _ (Ch.refl _ w6).drew | exact HKW.out _ (HA7.out.trans (aN (Ch.refl _ w7) (.inr (.inr rfl)) _ _)) | exact (HKW.out _ (HA7.out.trans (aN (Ch.refl _ w7) (.inr (.inr rfl)) _ _))).2.2.2.1 | exact (HKW.out _ (HA7.out.trans (aN (Ch.refl _ w7) (.inr (.inr rfl)) _ _))).2.2.2.2))
          (first
          | (go_at_call 80
             refine (HIB.out w6.drew (Ch.refl _ w6).drew (HS6.out.ch (S:=fun _=>False) (Ch.refl _ w6).drew id id)).mono ?_;rintro e w7 ⟨rfl,hs,hc⟩;have HS7:=hid hs;have HH7:=hid ((Ch.refl _ w6).drew.trans hc);have HA7:=hid (HH7.out.mono (S':=fun k=>k=gs∨k=gm∨k=w.heap.size+1) (fun k _ h=>h.elim .inl (fun h=>.inr (.inl h))));have HK7:=hid (HKW.out _ HA7.out);have HP7:=hid (HH7.out.keep HP6.out (by omega));have hsz7:=HH7.out.size;clear p0 p1 p2 p3 p4;obtain ⟨p0,p1,p2,p3,p4⟩:=ak HP7.out;clear hs hc;simp only [dm]))
         all_goals
          go_wp2_with fail;go_meet
          case rel=>exact ⟨aS HP7.out _,rfl,rfl,HS7.out.ch (aN (S:=fun j=>j=w.heap.size+1) (Ch.refl _ w7) rfl _ _) (by omega) (by omega),(HC6.out.trans HH7.out).then (aN (S:=fun j=>j=w.heap.size+1) (Ch.refl _ w7) rfl _ _) (fun i hi=>.inr (by omega))⟩
        case rest=>
        obtain ⟨hpb,rfl,rfl,hs7,hc7⟩:=hcut;obtain ⟨p0,p1,p2,p3,p4⟩:=ak hpb;go_wp2_with fail
        exact bodyPost_ret (v:=dm a) (by simp [results,Tryz.results80,go_sem,dm,p0,p1]) rfl
         ⟨by rw [HV.out],by rw [HV.out];exact hs7,hc7⟩
       ·have HV:=hid (show (au sk (f+1) at_).run s=(s5,.ok none) by
         rw [HNN.out];unfold dI;simp only [HJ.out,HST.out,HJJ.out];rw [if_neg h0];rfl)
        clear hjj;by_cases h1:jj<0
        ·clear h0;go_wp2_with fail;refine (bE 0 w6).mono ?_;rintro e w7 ⟨rfl,hb⟩;have HS7:=hid (HS6.out.ch (S:=fun _=>False) (Ch.of_below hb) id id);have HC7:=hid (HC6.out.trans (Ch.of_below hb));have HP7:=hid (ab HP6.out hb);have HSZ7:=hb.size;clear hb;obtain ⟨p0,p1,p2,p3,p4⟩:=ak HP7.out;go_wp2_with fail;have hf:=aS HP7.out ([],[]);obtain ⟨z0,z1,-,-,-⟩:=ak hf;have y0:((w7.setCell ⟨w.heap.size+1,0,none⟩ (.string ⟨#[]⟩)).setCell ⟨w.heap.size+1,1,none⟩ (.string ⟨#[]⟩)).cell? ⟨w.heap.size+1,0,none⟩=some (.string ⟨#[]⟩):=z0;have y1:((w7.setCell ⟨w.heap.size+1,0,none⟩ (.string ⟨#[]⟩)).setCell ⟨w.heap.size+1,1,none⟩ (.string ⟨#[]⟩)).cell? ⟨w.heap.size+1,1,none⟩=some (.string ⟨#[]⟩):=z1;have HC0:=aN (S:=fun j=>j=w.heap.size+1) (Ch.refl _ w7) rfl (.string ⟨#[]⟩) (.string ⟨#[]⟩)
         exact bodyPost_ret (v:=.tuple #[.agg #[.string ⟨#[]⟩,.string ⟨#[]⟩],.bool false,.int .i64 0]) (by simp [results,Tryz.results80,go_sem,y0,y1]) rfl
          ⟨by rw [HV.out];rfl,by rw [HV.out];exact HS7.out.ch HC0 (by omega) (by omega),HC7.out.then HC0 (fun i hi=>.inr (by omega))⟩
        ·have h2:(n.kids.length:Int)≤jj:=by omega
         have h3:(0:Int)≤jj:=by omega
         clear h0 h1;go_wp2_with fail;refine (bE 0 w6).mono ?_;rintro e w7 ⟨rfl,hb⟩;have HS7:=hid (HS6.out.ch (S:=fun _=>False) (Ch.of_below hb) id id);have HC7:=hid (HC6.out.trans (Ch.of_below hb));have HP7:=hid (ab HP6.out hb);have HSZ7:=hb.size;clear hb;obtain ⟨p0,p1,p2,p3,p4⟩:=ak HP7.out;go_wp2_with fail;have hf:=aS HP7.out ([],[]);obtain ⟨z0,z1,-,-,-⟩:=ak hf;have y0:((w7.setCell ⟨w.heap.size+1,0,none⟩ (.string ⟨#[]⟩)).setCell ⟨w.heap.size+1,1,none⟩ (.string ⟨#[]⟩)).cell? ⟨w.heap.size+1,0,none⟩=some (.string ⟨#[]⟩):=z0;have y1:((w7.setCell ⟨w.heap.size+1,0,none⟩ (.string ⟨#[]⟩)).setCell ⟨w.heap.size+1,1,none⟩ (.string ⟨#[]⟩)).cell? ⟨w.heap.size+1,1,none⟩=some (.string ⟨#[]⟩):=z1;have HC0:=aN (S:=fun j=>j=w.heap.size+1) (Ch.refl _ w7) rfl (.string ⟨#[]⟩) (.string ⟨#[]⟩)
         exact bodyPost_ret (v:=.tuple #[.agg #[.string ⟨#[]⟩,.string ⟨#[]⟩],.bool false,.int .i64 0]) (by simp [results,Tryz.results80,go_sem,y0,y1]) rfl
          ⟨by rw [HV.out];rfl,by rw [HV.out];exact HS7.out.ch HC0 (by omega) (by omega),HC7.out.then HC0 (fun i hi=>.inr (by omega))⟩
      ·simp only [bQ,fA,fB] at HG6 ⊢;have HV:=hid (show (au sk (f+1) at_).run s=(s5,.ok (some p)) by rw [HNX0.out,ah HX5.out];rfl);obtain ⟨p0,p1,p2,p3,p4⟩:=ak HP6.out;obtain ⟨g0,g1,g2,g3,g4⟩:=ak HG6.out;go_wp2_with fail;have hf:=aS HP6.out p;obtain ⟨z0,z1,-,-,-⟩:=ak hf;have HC0:=aN (S:=fun j=>j=w.heap.size+1) (Ch.refl _ wc) rfl (.string (ap p.1)) (.string (ap p.2))
       exact bodyPost_ret (v:=.tuple #[.agg #[.string (ap p.1),.string (ap p.2)],.bool true,.int .i64 0]) (by simp [results,Tryz.results80,go_sem,z0,z1]) rfl
        ⟨by rw [HV.out];rfl,by rw [HV.out];exact HS6.out.ch HC0 (by omega) (by omega),HC6.out.then HC0 (fun i hi=>.inr (by omega))⟩
      ·simp only [bQ,fA,fB] at HG6 ⊢;have hx0:¬ x=0:=hnz x (dK _ _ _) rfl;have hx1:(x == 0)=false:=by simpa using hx0
       have HV:=hid (show (au sk (f+1) at_).run s=(s5,.err x) by rw [HNX0.out,aq HX5.out]);obtain ⟨p0,p1,p2,p3,p4⟩:=ak HP6.out;obtain ⟨g0,g1,g2,g3,g4⟩:=ak HG6.out;go_wp2_with fail;have hf:=aS HP6.out ([],[]);obtain ⟨z0,z1,-,-,-⟩:=ak hf;have HC0:=aN (S:=fun j=>j=w.heap.size+1) (Ch.refl _ wc) rfl (.string (ap [])) (.string (ap []))
       exact bodyPost_ret (v:=.tuple #[.agg #[.string (ap []),.string (ap [])],.bool false,.int .i64 x]) (by simp [results,Tryz.results80,go_sem,z0,z1]) rfl
        ⟨by rw [HV.out];rfl,by rw [HV.out];exact HS6.out.ch HC0 (by omega) (by omega),HC6.out.then HC0 (fun i hi=>.inr (by omega))⟩
     ·rw [hl] at a0;have HRG:=hid (show (au sk (f+1) at_).run s=(eR sk n).run s2 by unfold au;rw [HRF.out,if_pos hl]);have HLFN:=hid (HLF.out w3 n (.agg #[.bool n.leaf,.slice A1 n.keys.length c1,.slice A2 n.cells.length c2,.slice A3 n.kids.length c3]) HL3.out HN3.out.val HSM.out HGD.out);rw [hl] at HLFN;have HCK:=hid (bW HGD.out hl).2.1;go_wp2_with fail;refine HLFN.out.mono ?_;rintro e w4 ⟨rfl,hb⟩;have HS4:=hid (HS3.out.ch (S:=fun _=>False) (Ch.of_below hb) id id);have HC4:=hid (HC3.out.trans (Ch.of_below hb));have HX4:=hid (ab HX3.out hb);have HP4:=hid (ab HP3.out hb);have HN4:=hid (HN3.out.keep hb);have HK4:=hid (HK3.out.keep hb);have hsz4:=hb.size;clear hb a0 a1 a2 a3 a4 q0 q1 q2 q3;obtain ⟨a0,a1,a2,a3,a4⟩:=aa HX4.out;rw [hl] at a0;by_cases h0:0≤sk.lf n∧sk.lf n<n.keys.length
      ·obtain ⟨i,hi⟩:∃ i:Nat,sk.lf n=i:=⟨(sk.lf n).toNat,by omega⟩;have HV0:=hid (show (au sk (f+1) at_).run s=(fZ n i).run s2 by
        rw [HRG.out];unfold eR;rw [if_pos h0,hi,Int.toNat_natCast];rfl)
       rw [hi];have hik:i<n.keys.length:=by omega
       have hi0:(0:Int)≤(i:Int):=by omega
       have hi1:(i:Int)<(n.keys.length:Int):=by omega
       have HPA:=hid (jq n i (.slice A1 n.keys.length c1) (.slice A2 n.cells.length c2) (.slice A3 n.kids.length c3) gs gm s2 w4 HS4.out (by
        obtain ⟨vk,vc,vd,he,i1,i2,i3⟩:=HN4.out;injection he with he
        obtain ⟨rfl,rfl,rfl⟩:=kx he;exact ⟨i1.sl,i2.sl,i3.sl⟩) HSM.out hik HCK.out _ HK4.out (by omega))
       rw [hl] at HPA;unfold bt at HPA;clear h0 hi;go_wp2_with fail;refine HPA.out.mono ?_;rintro e w5 ⟨rfl,hs,hc⟩;have HP5:=hid (hc.keep HP4.out (by omega));have HC5:=hid (HC4.out.trans hc);have hsz5:=hc.size;obtain ⟨⟨s5,a⟩,hx⟩:∃ x,(fZ n i).run s2=x:=⟨_,rfl⟩;rw [hx] at hs ⊢;have HV:=hid (HV0.out.trans hx);have HS5:=hid hs;clear hs hc a0 a1 a2 a3 a4 hx;obtain ⟨p0,p1,p2,p3,p4⟩:=ak HP5.out;unfold dm;go_wp2_with fail;have hf:=aS HP5.out (bQ a);obtain ⟨z0,z1,-,-,-⟩:=ak hf;have HC0:=aN (S:=fun j=>j=w.heap.size+1) (Ch.refl _ w5) rfl (.string (ap (bQ a).1)) (.string (ap (bQ a).2))
       exact bodyPost_ret (v:=dm a) (by simp [results,Tryz.results80,go_sem,dm,z0,z1]) rfl
        ⟨by rw [HV.out],by rw [HV.out];exact HS5.out.ch HC0 (by omega) (by omega),HC5.out.then HC0 (fun i hi=>.inr (by omega))⟩
      ·have HV:=hid (show (au sk (f+1) at_).run s=(s2,.ok none) by
        rw [HRG.out];unfold eR;rw [if_neg h0];rfl)
       by_cases h1:sk.lf n<0
       ·clear h0;go_wp2_with fail;refine (bE 0 w4).mono ?_;rintro e w5 ⟨rfl,hb⟩;have HS5:=hid (HS4.out.ch (S:=fun _=>False) (Ch.of_below hb) id id);have HC5:=hid (HC4.out.trans (Ch.of_below hb));have HP5:=hid (ab HP4.out hb);have HSZ5:=hb.size;clear hb;obtain ⟨p0,p1,p2,p3,p4⟩:=ak HP5.out;go_wp2_with fail;have hf:=aS HP5.out ([],[]);obtain ⟨z0,z1,-,-,-⟩:=ak hf;have y0:((w5.setCell ⟨w.heap.size+1,0,none⟩ (.string ⟨#[]⟩)).setCell ⟨w.heap.size+1,1,none⟩ (.string ⟨#[]⟩)).cell? ⟨w.heap.size+1,0,none⟩=some (.string ⟨#[]⟩):=z0;have y1:((w5.setCell ⟨w.heap.size+1,0,none⟩ (.string ⟨#[]⟩)).setCell ⟨w.heap.size+1,1,none⟩ (.string ⟨#[]⟩)).cell? ⟨w.heap.size+1,1,none⟩=some (.string ⟨#[]⟩):=z1;have HC0:=aN (S:=fun j=>j=w.heap.size+1) (Ch.refl _ w5) rfl (.string ⟨#[]⟩) (.string ⟨#[]⟩)
        exact bodyPost_ret (v:=.tuple #[.agg #[.string ⟨#[]⟩,.string ⟨#[]⟩],.bool false,.int .i64 0]) (by simp [results,Tryz.results80,go_sem,y0,y1]) rfl
         ⟨by rw [HV.out];rfl,by rw [HV.out];exact HS5.out.ch HC0 (by omega) (by omega),HC5.out.then HC0 (fun i hi=>.inr (by omega))⟩
       ·have h2:(n.keys.length:Int)≤sk.lf n:=by omega
        have h3:(0:Int)≤sk.lf n:=by omega
        clear h0 h1;go_wp2_with fail;refine (bE 0 w4).mono ?_;rintro e w5 ⟨rfl,hb⟩;have HS5:=hid (HS4.out.ch (S:=fun _=>False) (Ch.of_below hb) id id);have HC5:=hid (HC4.out.trans (Ch.of_below hb));have HP5:=hid (ab HP4.out hb);have HSZ5:=hb.size;clear hb;obtain ⟨p0,p1,p2,p3,p4⟩:=ak HP5.out;go_wp2_with fail;have hf:=aS HP5.out ([],[]);obtain ⟨z0,z1,-,-,-⟩:=ak hf;have y0:((w5.setCell ⟨w.heap.size+1,0,none⟩ (.string ⟨#[]⟩)).setCell ⟨w.heap.size+1,1,none⟩ (.string ⟨#[]⟩)).cell? ⟨w.heap.size+1,0,none⟩=some (.string ⟨#[]⟩):=z0;have y1:((w5.setCell ⟨w.heap.size+1,0,none⟩ (.string ⟨#[]⟩)).setCell ⟨w.heap.size+1,1,none⟩ (.string ⟨#[]⟩)).cell? ⟨w.heap.size+1,1,none⟩=some (.string ⟨#[]⟩):=z1;have HC0:=aN (S:=fun j=>j=w.heap.size+1) (Ch.refl _ w5) rfl (.string ⟨#[]⟩) (.string ⟨#[]⟩)
        exact bodyPost_ret (v:=.tuple #[.agg #[.string ⟨#[]⟩,.string ⟨#[]⟩],.bool false,.int .i64 0]) (by simp [results,Tryz.results80,go_sem,y0,y1]) rfl
         ⟨by rw [HV.out];rfl,by rw [HV.out];exact HS5.out.ch HC0 (by omega) (by omega),HC5.out.then HC0 (fun i hi=>.inr (by omega))⟩
theorem ms (LK:World→Prop) (sk:Sk) ( gs gm:Nat) (hst:sk.step=(-1))
  (hlf:∀ W n v,LK W→NdV W v n→n.Sm 229→aF n=true→Calls Tryz.prog 83 #[v] W fun e w'=>e=.returned (.int .i64 (sk.lf n))∧Below W.heap.size W w')
  (hkf:∀ W n v,LK W→NdV W v n→n.Sm 229→aF n=true→Calls Tryz.prog 82 #[v] W fun e w'=>e=.returned (.int .i64 (sk.kd n))∧Below W.heap.size W w')
  (hch:∀ W W',LK W→Ch (fun k=>k=gs∨k=gm) W W'→LK W')
  (hkd:∀ n,aF n=true→n.leaf=false→0≤sk.kd n∧sk.kd n<n.kids.length)
  (f:Nat) (hf:f≤20) (at_:Int) (s:Sf) (w:World) (hS:ShIs w gs gm s) (hL:LK w)
  (ih:∀ f',f'+1=f→∀ at_ s w,ShIs w gs gm s→LK w→Calls Tryz.prog 80 #[.agg #[.func (.func 83) #[] #[],.func (.func 82) #[] #[],.int .i64 (-1)],bt gs,.int .i64 at_,.int .i64 (21 - f':Int)] w fun e w'=>e=.returned (dm ((au sk f' at_).run s).2)∧ShIs w' gs gm ((au sk f' at_).run s).1∧Ch (fun k=>k=gs∨k=gm) w w'):
  Calls Tryz.prog 80 #[.agg #[.func (.func 83) #[] #[],.func (.func 82) #[] #[],.int .i64 (-1)],bt gs,.int .i64 at_,.int .i64 (21 - f:Int)] w fun e w'=>e=.returned (dm ((au sk f at_).run s).2)∧ShIs w' gs gm ((au sk f at_).run s).1∧Ch (fun k=>k=gs∨k=gm) w w':=by
 have HIH:=hid ih;have HST:=hid hst;have HLF:=hid hlf;have HKF:=hid hkf;have HCH:=hid hch;have HKD:=hid hkd;have hgs:=aj hS.blk;have hgm:=hS.book.lt;generalize hlv:(21 - (f:Int))=lv at *;have HLV:=hid hlv;have hlv0:1≤lv:=by omega
 have hlv1:lv≤21:=by omega
 have HW1:=hid (((Below.refl _ w).alloc (Nat.le_refl _) (iA (.func (.func 83) #[] #[]) (.func (.func 82) #[] #[]) (-1))).alloc (by simp) (dj ([],[])));have HQ1:=hid (ai (ag (w0:=w) (g:=w.heap.size) (o:=iA (.func (.func 83) #[] #[]) (.func (.func 82) #[] #[]) (-1)) rfl) (dj ([],[])));have HP1:=hid (ag (w0:=w.alloc (iA (.func (.func 83) #[] #[]) (.func (.func 82) #[] #[]) (-1))) (g:=w.heap.size+1) (o:=dj ([],[])) (by simp));have HSZ:=hid (show ((w.alloc (iA (.func (.func 83) #[] #[]) (.func (.func 82) #[] #[]) (-1))).alloc (dj ([],[]))).heap.size=w.heap.size+2 by simp);have HS1:=hid (hS.ch (S:=fun _=>False) (Ch.of_below HW1.out) id id);have HL1:=hid (hch _ _ hL (Ch.of_below HW1.out));have HC1:=hid (Ch.of_below (S:=fun k=>k=gs∨k=gm) HW1.out);clear hS hL ih hlv hst hlf hkf hch hkd;unfold bt at HIH ⊢;go_enter Tryz.func80,Tryz.ntmps80;go_upto_region 1 with fail
 generalize hw1:(w.alloc (.cells #[.func (.func 83) #[] #[],.func (.func 82) #[] #[],.int .i64 (-1)] 140)).alloc (.cells #[.string ⟨#[]⟩,.string ⟨#[]⟩] 62)=w1 at *;have hw2:(w.alloc (iA (.func (.func 83) #[] #[]) (.func (.func 82) #[] #[]) (-1))).alloc (dj ([],[]))=w1:=hw1;rw [hw2] at HW1 HQ1 HP1 HSZ HS1 HL1 HC1;clear hw1 hw2;have HRD:=hid (jp at_ gs gm s w1 HS1.out);unfold bt at HRD;go_wp2_with fail;refine HRD.out.mono ?_;rintro e w2 ⟨hp,hs,hc⟩;have hrz:=bF (a:=at_) (s:=s);obtain ⟨⟨s2,a⟩,hx⟩:∃ x,(aM at_).run s=x:=⟨_,rfl⟩;rw [hx] at hp hs hrz;have HS2:=hid hs;have HC2:=hid (HC1.out.trans hc);have HL2:=hid (HCH.out _ _ HL1.out hc);have hsz1:=HSZ.out;have HQ2:=hid (hc.keep HQ1.out (by omega));have HP2:=hid (hc.keep HP1.out (by omega));have HX:=hid hx;have hsz2:=hc.size;clear hs hc hx HRD;cases a with
 | err x=>
   obtain rfl:=hp;have hx0:¬ x=0:=hrz x rfl;have hx1:(x == 0)=false:=by simpa using hx0
   have HV:=hid (show (au sk f at_).run s=(s2,.err x) by
    cases f with
    | zero=>exact aq HX.out
    | succ f=>unfold au;exact aq HX.out)
   obtain ⟨zn,hzn⟩:∃ o,o=ar Nd.zero (.slice none 0 0) (.slice none 0 0) (.slice none 0 0):=⟨_,rfl⟩;have HS3:=hid (HS2.out.ch (S:=fun _=>False) (Ch.alloc (Ch.refl _ w2) zn) id id);have HC3:=hid (Ch.alloc HC2.out zn);have HP3:=hid (ai HP2.out zn);have hsz3:w2.heap.size<(w2.alloc zn).heap.size:=by simp
   simp only [k8];go_upto_region 2 with fail
   generalize hw1:w2.alloc (.cells #[.bool false,.slice none 0 0,.slice none 0 0,.slice none 0 0] 110)=w3 at *;have hw2:w2.alloc zn=w3:=by rw [hzn];exact hw1
   rw [hw2] at HS3 HC3 HP3 hsz3;clear hw1 hw2 hzn;go_wp2_with fail;refine (bE x w3).mono ?_;rintro e w4 ⟨rfl,hb⟩;have HS4:=hid (HS3.out.ch (S:=fun _=>False) (Ch.of_below hb) id id);have HC4:=hid (HC3.out.trans (Ch.of_below hb));have HP4:=hid (ab HP3.out hb);have HSZ4:=hb.size;clear hb;obtain ⟨p0,p1,p2,p3,p4⟩:=ak HP4.out;go_wp2_with fail;have hf:=aS HP4.out ([],[]);obtain ⟨z0,z1,-,-,-⟩:=ak hf;have y0:((w4.setCell ⟨w.heap.size+1,0,none⟩ (.string ⟨#[]⟩)).setCell ⟨w.heap.size+1,1,none⟩ (.string ⟨#[]⟩)).cell? ⟨w.heap.size+1,0,none⟩=some (.string ⟨#[]⟩):=z0;have y1:((w4.setCell ⟨w.heap.size+1,0,none⟩ (.string ⟨#[]⟩)).setCell ⟨w.heap.size+1,1,none⟩ (.string ⟨#[]⟩)).cell? ⟨w.heap.size+1,1,none⟩=some (.string ⟨#[]⟩):=z1;have HC0:=aN (S:=fun j=>j=w.heap.size+1) (Ch.refl _ w4) rfl (.string ⟨#[]⟩) (.string ⟨#[]⟩)
   exact bodyPost_ret (v:=.tuple #[.agg #[.string ⟨#[]⟩,.string ⟨#[]⟩],.bool false,.int .i64 x]) (by simp [results,Tryz.results80,go_sem,y0,y1]) rfl
    ⟨by rw [HV.out];rfl,by rw [HV.out];exact HS4.out.ch HC0 (by omega) (by omega),HC4.out.then HC0 (fun i hi=>.inr (by omega))⟩
 | ok n=>
   obtain ⟨v,rfl,ho⟩:=hp;have HNF:=hid ho.f;obtain ⟨vk,vc,vd,rfl,h1,h2,h3⟩:=ho.f;obtain ⟨hg,hsm⟩:=cW HX.out;have HSM:=hid hsm;have HGD:=hid hg;have HRF:=hid (show ∀ p:Nd→Pro (Option Pr),((aM at_).bind p).run s=(p n).run s2 from fun p=>ah HX.out);obtain ⟨A1,c1,rfl⟩:=Sl.len' h1.sl;obtain ⟨A2,c2,rfl⟩:=Sl.len' h2.sl;obtain ⟨A3,c3,rfl⟩:=Sl.len' h3.sl;have HKF1:=hid h1;clear ho h1 h2 h3 hg hsm hrz;have HX3:=hid (ag (w0:=w2) (g:=w2.heap.size) (o:=ar n (.slice A1 n.keys.length c1) (.slice A2 n.cells.length c2) (.slice A3 n.kids.length c3)) rfl);have HB3:=hid ((Below.refl _ w2).alloc (Nat.le_refl _) (ar n (.slice A1 n.keys.length c1) (.slice A2 n.cells.length c2) (.slice A3 n.kids.length c3)));have HS3:=hid (HS2.out.ch (S:=fun _=>False) (Ch.of_below HB3.out) id id);have HC3:=hid (HC2.out.trans (Ch.of_below HB3.out));have HL3:=hid (HCH.out _ _ HL2.out (Ch.of_below HB3.out));have HN3:=hid (HNF.out.keep HB3.out);have HK3:=hid (HKF1.out.keep HB3.out);have HQ3:=hid (ab HQ2.out HB3.out);have HP3:=hid (ab HP2.out HB3.out);have hsz3:w2.heap.size<(w2.alloc (ar n (.slice A1 n.keys.length c1) (.slice A2 n.cells.length c2) (.slice A3 n.kids.length c3))).heap.size:=by simp
   go_upto_region 2 with fail
   generalize hw1:w2.alloc (.cells #[.bool n.leaf,.slice A1 n.keys.length c1,.slice A2 n.cells.length c2,.slice A3 n.kids.length c3] 110)=w3 at *;have hw2:w2.alloc (ar n (.slice A1 n.keys.length c1) (.slice A2 n.cells.length c2) (.slice A3 n.kids.length c3))=w3:=hw1;rw [hw2] at HX3 HB3 HS3 HC3 HL3 HN3 HK3 HQ3 HP3 hsz3;clear hw1 hw2;cases f with
   | zero=>
     have HV:=hid (show (au sk 0 at_).run s=(s2,.err 30) from HRF.out _);have hl1:20<lv:=by have:=HLV.out;omega
     go_wp2_with fail;refine (bE 30 w3).mono ?_;rintro e w4 ⟨rfl,hb⟩;have HS4:=hid (HS3.out.ch (S:=fun _=>False) (Ch.of_below hb) id id);have HC4:=hid (HC3.out.trans (Ch.of_below hb));have HP4:=hid (ab HP3.out hb);have HSZ4:=hb.size;clear hb;obtain ⟨p0,p1,p2,p3,p4⟩:=ak HP4.out;go_wp2_with fail;have hf:=aS HP4.out ([],[]);obtain ⟨z0,z1,-,-,-⟩:=ak hf;have y0:((w4.setCell ⟨w.heap.size+1,0,none⟩ (.string ⟨#[]⟩)).setCell ⟨w.heap.size+1,1,none⟩ (.string ⟨#[]⟩)).cell? ⟨w.heap.size+1,0,none⟩=some (.string ⟨#[]⟩):=z0;have y1:((w4.setCell ⟨w.heap.size+1,0,none⟩ (.string ⟨#[]⟩)).setCell ⟨w.heap.size+1,1,none⟩ (.string ⟨#[]⟩)).cell? ⟨w.heap.size+1,1,none⟩=some (.string ⟨#[]⟩):=z1;have HC0:=aN (S:=fun j=>j=w.heap.size+1) (Ch.refl _ w4) rfl (.string ⟨#[]⟩) (.string ⟨#[]⟩)
     exact bodyPost_ret (v:=.tuple #[.agg #[.string ⟨#[]⟩,.string ⟨#[]⟩],.bool false,.int .i64 30]) (by simp [results,Tryz.results80,go_sem,y0,y1]) rfl
      ⟨by rw [HV.out];rfl,by rw [HV.out];exact HS4.out.ch HC0 (by omega) (by omega),HC4.out.then HC0 (fun i hi=>.inr (by omega))⟩
   | succ f=>
     have hl1:lv≤20:=by have:=HLV.out;omega
     obtain ⟨a0,a1,a2,a3,a4⟩:=aa HX3.out;obtain ⟨q0,q1,q2,q3⟩:=dh HQ3.out;cases hl:n.leaf
     ·rw [hl] at a0;have HRG:=hid (show (au sk (f+1) at_).run s=((au sk f (n.kids.getD (sk.kd n).toNat 0)).bind (dI sk (au sk f) n)).run s2 by
       rw [show au sk (f+1) at_=(aM at_).bind fun n=>if n.leaf then eR sk n else (au sk f (n.kids.getD (sk.kd n).toNat 0)).bind (dI sk (au sk f) n) from rfl,HRF.out,hl];rfl)
      have HKFN:=hid (HKF.out w3 n (.agg #[.bool n.leaf,.slice A1 n.keys.length c1,.slice A2 n.cells.length c2,.slice A3 n.kids.length c3]) HL3.out HN3.out.val HSM.out HGD.out);rw [hl] at HKFN;go_wp2_with fail;refine HKFN.out.mono ?_;rintro e w4 ⟨rfl,hb⟩;have HS4:=hid (HS3.out.ch (S:=fun _=>False) (Ch.of_below hb) id id);have HC4:=hid (HC3.out.trans (Ch.of_below hb));have HL4:=hid (HCH.out _ _ HL3.out (Ch.of_below hb));have HX4:=hid (ab HX3.out hb);have HQ4:=hid (ab HQ3.out hb);have HP4:=hid (ab HP3.out hb);have HN4:=hid (HN3.out.keep hb);have hsz4:=hb.size;clear hb a0 a1 a2 a3 a4 q0 q1 q2 q3;obtain ⟨hk1,hk2⟩:=HKD.out n HGD.out hl;obtain ⟨j,hj⟩:∃ j:Nat,sk.kd n=j:=⟨(sk.kd n).toNat,by omega⟩;have HJ:=hid hj;rw [hj] at hk1 hk2 ⊢;have hjk:j<n.kids.length:=by omega
      have HNX:=hid (show (au sk (f+1) at_).run s=((au sk f n.kids[j]).bind (dI sk (au sk f) n)).run s2 by
       rw [HRG.out,hj,Int.toNat_natCast,List.getD_eq_getElem?_getD,List.getElem?_eq_getElem hjk];rfl)
      have HKI:=hid (show SlF iC 1 w1.heap.size w4 (.slice A3 n.kids.length c3) n.kids by
       obtain ⟨vk,vc,vd,he,i1,i2,i3⟩:=HN4.out;injection he with he
       obtain ⟨rfl,rfl,rfl⟩:=kx he;exact i3)
      have HLVS:=hid (show lv+1=21 - (f:Int) by have:=HLV.out;omega);have hbd:=HSM.out.d;clear hj;obtain ⟨a0,a1,a2,a3,a4⟩:=aa HX4.out;rw [hl] at a0;obtain ⟨q0,q1,q2,q3⟩:=dh HQ4.out;obtain ⟨b,off,rfl,hbl,e0⟩:=HKI.out.sl.int2 hjk;have hfar:w1.heap.size≤b:=HKI.out.far b rfl;have HIA:=hid (fun (W:World) (h:Ch (fun k=>k=gs∨k=gm) w4 W) (hs:ShIs W gs gm s2)=>HIH.out f rfl n.kids[j] s2 W hs (HCH.out _ _ HL4.out h));rw [← HLVS.out] at HIA;have HNX0:=HNX;clear HNX;generalize hkq:n.kids[j]=kd at *;clear hkq;obtain ⟨⟨s5,a⟩,hx⟩:∃ x,(au sk f kd).run s2=x:=⟨_,rfl⟩;rw [hx] at HIA;have HX5:=hid hx;clear hx;have nW:IntKind.i64.wrap (lv+1)=lv+1:=IntWalk.i64_in _ (by omega);go_upto_region 12 with fail
      go_cut [12,15,16] from 70 to 82 (fun ev xv iv wx=>wy w4 gs gm s5 a ev xv iv wx)
      case first=>
       have HKW:=hid (show ∀ (wn:World),Ch (fun k=>k=gs∨k=gm) w4 wn→wn.cell? ⟨w.heap.size,0,none⟩=some (.func (.func 83) #[] #[])∧wn.cell? ⟨w.heap.size,1,none⟩=some (.func (.func 82) #[] #[])∧wn.cell? ⟨w.heap.size,2,none⟩=some (.int .i64 (-1))∧wn.cell? ⟨w2.heap.size,3,none⟩=some (.slice (some ⟨b,off,none⟩) n.kids.length c3)∧wn.cell? ⟨b,off+j,none⟩=some (.int .i64 kd) from fun wn h=>
        ⟨h.cell q0 (by simp only;omega),h.cell q1 (by simp only;omega),h.cell q2 (by simp only;omega),h.cell a3 (by simp only;omega),h.cell e0 (by simp only;omega)⟩)
       go_region_held3 (fun wn=>wn.cell? ⟨w.heap.size,0,none⟩=some (.func (.func 83) #[] #[])∧wn.cell? ⟨w.heap.size,1,none⟩=some (.func (.func 82) #[] #[])∧wn.cell? ⟨w.heap.size,2,none⟩=some (.int .i64 (-1))∧wn.cell? ⟨w2.heap.size,3,none⟩=some (.slice (some ⟨b,off,none⟩) n.kids.length c3)∧wn.cell? ⟨b,off+j,none⟩=some (.int .i64 kd))
        ((first | go_keep | exact HK5.out | exact HKW.out _ (Ch.alloc HH5.out _) | exact HKW.out _ (HH5.out.then (aN (S:=fun j=>j=w4.heap.size) (Ch.refl _ w5) rfl _ _) (fun i hi=>.inr (by omega)))))
        (first
        | (go_at_call 80
           refine (HIA.out w4.drew (Ch.refl _ w4).drew (HS4.out.ch (S:=fun _=>False) (Ch.refl _ w4).drew id id)).mono ?_;rintro e w5 ⟨rfl,hs,hc⟩;have HS5:=hid hs;have HH5:=hid ((Ch.refl _ w4).drew.trans hc);have HK5:=hid (HKW.out _ HH5.out);clear hs hc;simp only [dm])
        | (go_at_call 80
           refine (HIA.out (w4.alloc (dj ([],[]))).drew (Ch.alloc (Ch.refl _ w4) _).drew (HS4.out.ch (S:=fun _=>False) (Ch.alloc (Ch.refl _ w4) _).drew id id)).mono ?_;rintro e w5 ⟨rfl,hs,hc⟩;have HS5:=hid hs;have HH5:=hid ((Ch.alloc (Ch.refl _ w4) (dj ([],[]))).drew.trans hc);have HK5:=hid (HKW.out _ HH5.out);have HZ5:=hid (hc.keep (show (w4.alloc (dj ([],[]))).drew.heap[w4.heap.size]?=some (dj ([],[])) from ag (w0:=w4) rfl) (by omega));obtain ⟨p0,p1,p2,p3,p4⟩:=ak HZ5.out;clear hs hc;simp only [dm]))
       all_goals
        go_wp2_with fail;go_meet
        case rel=>first
         | exact ⟨w5.heap.size,rfl,ag rfl,rfl,rfl,HS5.out.ch (S:=fun _=>False) (Ch.alloc (Ch.refl _ w5) _) id id,Ch.alloc HH5.out _⟩
         | exact ⟨w4.heap.size,rfl,aS HZ5.out _,rfl,rfl,HS5.out.ch (aN (S:=fun j=>j=w4.heap.size) (Ch.refl _ w5) rfl _ _) (by omega) (by omega),HH5.out.then (aN (S:=fun j=>j=w4.heap.size) (Ch.refl _ w5) rfl _ _) (fun i hi=>.inr (by omega))⟩
      case rest=>
      obtain ⟨g5,rfl,hpb,rfl,rfl,hs5,hc5⟩:=hcut;have HS6:=hid hs5;have HC6:=hid (HC4.out.trans hc5);have HP6:=hid (hc5.keep HP4.out (by omega));have HX6:=hid (hc5.keep HX4.out (by omega));have HQ6:=hid (hc5.keep HQ4.out (by omega));have HL6:=hid (HCH.out _ _ HL4.out hc5);have HKI6:=hid (HKI.out.ch hc5 (fun k hk e=>by omega));have HG6:=hid hpb;have hsz6:=hc5.size;have hg6:=aj hpb;clear hs5 hc5 hpb a0 a1 a2 a3 a4 q0 q1 q2 q3 e0 hbl;have hnz:=Pro.NZ.run (au sk f kd) s2;rw [HX5.out] at hnz;rcases a with (_ | p) | x
      ·simp only [bQ,fA,fB] at HG6 ⊢;have HNN:=hid (show (au sk (f+1) at_).run s=(dI sk (au sk f) n none).run s5 by rw [HNX0.out,ah HX5.out]);obtain ⟨a0,a1,a2,a3,a4⟩:=aa HX6.out;rw [hl] at a0;obtain ⟨q0,q1,q2,q3⟩:=dh HQ6.out;have hsum:IntKind.i64.wrap ((j:Int)+(-1))=(j:Int)+(-1):=IntWalk.i64_in _ (by omega);obtain ⟨w6,hw6⟩:∃ w6:World,w6=wc:=⟨_,rfl⟩;subst hw6;go_upto_region 16 with fail
       clear hsum;generalize hjj:(j:Int)+(-1)=jj;have HJJ:=hid hjj;have hjb:jj<9223372036854775807:=by omega
       by_cases h0:0≤jj∧jj<n.kids.length
       ·obtain ⟨h0,h1⟩:=h0;obtain ⟨j2,hj2⟩:∃ j2:Nat,jj=j2:=⟨jj.toNat,by omega⟩;clear hjj hjb;subst hj2;have hjk2:j2<n.kids.length:=by omega
        have HNX:=hid (show (au sk (f+1) at_).run s=(au sk f n.kids[j2]).run s5 by
         rw [HNN.out];unfold dI;simp only [HJ.out,HST.out,HJJ.out];rw [if_pos ⟨h0,h1⟩,Int.toNat_natCast,List.getD_eq_getElem?_getD,List.getElem?_eq_getElem hjk2];rfl)
        obtain ⟨b',off',he,hbl,e0⟩:=HKI6.out.sl.int2 hjk2;injection he with he
        injection he with he1 he2
        subst he1 he2;have hfar:w1.heap.size≤b:=HKI6.out.far b rfl;have hn1:¬ w2.heap.size=w.heap.size+1:=by omega
        have hn2:¬ b=w.heap.size+1:=by omega
        have hn3:¬ w.heap.size+1=w2.heap.size:=by omega
        have hn4:¬ w.heap.size+1=b:=by omega
        have HIB:=hid (fun (W:World) (h:Ch (fun k=>k=gs∨k=gm) w6 W) (hs:ShIs W gs gm s5)=>HIH.out f rfl n.kids[j2] s5 W hs (HCH.out _ _ HL6.out h));rw [← HLVS.out] at HIB;generalize n.kids[j2]=kd2 at *;obtain ⟨⟨s7,a⟩,hx⟩:∃ x,(au sk f kd2).run s5=x:=⟨_,rfl⟩;rw [hx] at HIB;have HV:=hid (HNX.out.trans hx);clear hx HNX;go_upto_region 18 with fail
        go_cut [9,10] from 83 to 120 (fun bv iv wx=>ww w gs gm (w.heap.size+1) s7 a bv iv wx)
        case first=>
         obtain ⟨p0,p1,p2,p3,p4⟩:=ak HP6.out
         have HKW:=hid (show ∀ (wn:World),Ch (fun k=>k=gs∨k=gm∨k=w.heap.size+1) w6 wn→wn.cell? ⟨w.heap.size,0,none⟩=some (.func (.func 83) #[] #[])∧wn.cell? ⟨w.heap.size,1,none⟩=some (.func (.func 82) #[] #[])∧wn.cell? ⟨w.heap.size,2,none⟩=some (.int .i64 (-1))∧wn.cell? ⟨w2.heap.size,3,none⟩=some (.slice (some ⟨b,off,none⟩) n.kids.length c3)∧wn.cell? ⟨b,off+j2,none⟩=some (.int .i64 kd2) from fun wn h=>
          ⟨h.cell q0 (by simp only;omega),h.cell q1 (by simp only;omega),h.cell q2 (by simp only;omega),h.cell a3 (by simp only;omega),h.cell e0 (by simp only;omega)⟩)
         go_region_held3 (fun wn=>wn.cell? ⟨w.heap.size,0,none⟩=some (.func (.func 83) #[] #[])∧wn.cell? ⟨w.heap.size,1,none⟩=some (.func (.func 82) #[] #[])∧wn.cell? ⟨w.heap.size,2,none⟩=some (.int .i64 (-1))∧wn.cell? ⟨w2.heap.size,3,none⟩=some (.slice (some ⟨b,off,none⟩) n.kids.length c3)∧wn.cell? ⟨b,off+j2,none⟩=some (.int .i64 kd2))
          ((first | go_keep | exact HK7.out | exact HKW.out _ (Ch.refl _ w6).drew | exact HKW.out _ (HA7.out.trans (aN (Ch.refl _ w7) (.inr (.inr rfl)) _ _)) | exact (HKW.out _ (HA7.out.trans (aN (Ch.refl _ w7) (.inr (.inr rfl)) _ _))).2.2.2.1 | exact (HKW.out _ (HA7.out.trans (aN (Ch.refl _ w7) (.inr (.inr rfl)) _ _))).2.2.2.2))
          (first
          | (go_at_call 80
             refine (HIB.out w6.drew (Ch.refl _ w6).drew (HS6.out.ch (S:=fun _=>False) (Ch.refl _ w6).drew id id)).mono ?_;rintro e w7 ⟨rfl,hs,hc⟩;have HS7:=hid hs;have HH7:=hid ((Ch.refl _ w6).drew.trans hc);have HA7:=hid (HH7.out.mono (S':=fun k=>k=gs∨k=gm∨k=w.heap.size+1) (fun k _ h=>h.elim .inl (fun h=>.inr (.inl h))));have HK7:=hid (HKW.out _ HA7.out);have HP7:=hid (HH7.out.keep HP6.out (by omega));have hsz7:=HH7.out.size;clear p0 p1 p2 p3 p4;obtain ⟨p0,p1,p2,p3,p4⟩:=ak HP7.out;clear hs hc;simp only [dm]))
         all_goals
          go_wp2_with fail;go_meet
          case rel=>exact ⟨aS HP7.out _,rfl,rfl,HS7.out.ch (aN (S:=fun j=>j=w.heap.size+1) (Ch.refl _ w7) rfl _ _) (by omega) (by omega),(HC6.out.trans HH7.out).then (aN (S:=fun j=>j=w.heap.size+1) (Ch.refl _ w7) rfl _ _) (fun i hi=>.inr (by omega))⟩
        case rest=>
        obtain ⟨hpb,rfl,rfl,hs7,hc7⟩:=hcut;obtain ⟨p0,p1,p2,p3,p4⟩:=ak hpb;go_wp2_with fail
        exact bodyPost_ret (v:=dm a) (by simp [results,Tryz.results80,go_sem,dm,p0,p1]) rfl
         ⟨by rw [HV.out],by rw [HV.out];exact hs7,hc7⟩
       ·have HV:=hid (show (au sk (f+1) at_).run s=(s5,.ok none) by
         rw [HNN.out];unfold dI;simp only [HJ.out,HST.out,HJJ.out];rw [if_neg h0];rfl)
        clear hjj;by_cases h1:jj<0
        ·clear h0;go_wp2_with fail;refine (bE 0 w6).mono ?_;rintro e w7 ⟨rfl,hb⟩;have HS7:=hid (HS6.out.ch (S:=fun _=>False) (Ch.of_below hb) id id);have HC7:=hid (HC6.out.trans (Ch.of_below hb));have HP7:=hid (ab HP6.out hb);have HSZ7:=hb.size;clear hb;obtain ⟨p0,p1,p2,p3,p4⟩:=ak HP7.out;go_wp2_with fail;have hf:=aS HP7.out ([],[]);obtain ⟨z0,z1,-,-,-⟩:=ak hf;have y0:((w7.setCell ⟨w.heap.size+1,0,none⟩ (.string ⟨#[]⟩)).setCell ⟨w.heap.size+1,1,none⟩ (.string ⟨#[]⟩)).cell? ⟨w.heap.size+1,0,none⟩=some (.string ⟨#[]⟩):=z0;have y1:((w7.setCell ⟨w.heap.size+1,0,none⟩ (.string ⟨#[]⟩)).setCell ⟨w.heap.size+1,1,none⟩ (.string ⟨#[]⟩)).cell? ⟨w.heap.size+1,1,none⟩=some (.string ⟨#[]⟩):=z1;have HC0:=aN (S:=fun j=>j=w.heap.size+1) (Ch.refl _ w7) rfl (.string ⟨#[]⟩) (.string ⟨#[]⟩)
         exact bodyPost_ret (v:=.tuple #[.agg #[.string ⟨#[]⟩,.string ⟨#[]⟩],.bool false,.int .i64 0]) (by simp [results,Tryz.results80,go_sem,y0,y1]) rfl
          ⟨by rw [HV.out];rfl,by rw [HV.out];exact HS7.out.ch HC0 (by omega) (by omega),HC7.out.then HC0 (fun i hi=>.inr (by omega))⟩
        ·have h2:(n.kids.length:Int)≤jj:=by omega
         have h3:(0:Int)≤jj:=by omega
         clear h0 h1;go_wp2_with fail;refine (bE 0 w6).mono ?_;rintro e w7 ⟨rfl,hb⟩;have HS7:=hid (HS6.out.ch (S:=fun _=>False) (Ch.of_below hb) id id);have HC7:=hid (HC6.out.trans (Ch.of_below hb));have HP7:=hid (ab HP6.out hb);have HSZ7:=hb.size;clear hb;obtain ⟨p0,p1,p2,p3,p4⟩:=ak HP7.out;go_wp2_with fail;have hf:=aS HP7.out ([],[]);obtain ⟨z0,z1,-,-,-⟩:=ak hf;have y0:((w7.setCell ⟨w.heap.size+1,0,none⟩ (.string ⟨#[]⟩)).setCell ⟨w.heap.size+1,1,none⟩ (.string ⟨#[]⟩)).cell? ⟨w.heap.size+1,0,none⟩=some (.string ⟨#[]⟩):=z0;have y1:((w7.setCell ⟨w.heap.size+1,0,none⟩ (.string ⟨#[]⟩)).setCell ⟨w.heap.size+1,1,none⟩ (.string ⟨#[]⟩)).cell? ⟨w.heap.size+1,1,none⟩=some (.string ⟨#[]⟩):=z1;have HC0:=aN (S:=fun j=>j=w.heap.size+1) (Ch.refl _ w7) rfl (.string ⟨#[]⟩) (.string ⟨#[]⟩)
         exact bodyPost_ret (v:=.tuple #[.agg #[.string ⟨#[]⟩,.string ⟨#[]⟩],.bool false,.int .i64 0]) (by simp [results,Tryz.results80,go_sem,y0,y1]) rfl
          ⟨by rw [HV.out];rfl,by rw [HV.out];exact HS7.out.ch HC0 (by omega) (by omega),HC7.out.then HC0 (fun i hi=>.inr (by omega))⟩
      ·simp only [bQ,fA,fB] at HG6 ⊢;have HV:=hid (show (au sk (f+1) at_).run s=(s5,.ok (some p)) by rw [HNX0.out,ah HX5.out];rfl);obtain ⟨p0,p1,p2,p3,p4⟩:=ak HP6.out;obtain ⟨g0,g1,g2,g3,g4⟩:=ak HG6.out;go_wp2_with fail;have hf:=aS HP6.out p;obtain ⟨z0,z1,-,-,-⟩:=ak hf;have HC0:=aN (S:=fun j=>j=w.heap.size+1) (Ch.refl _ wc) rfl (.string (ap p.1)) (.string (ap p.2))
       exact bodyPost_ret (v:=.tuple #[.agg #[.string (ap p.1),.string (ap p.2)],.bool true,.int .i64 0]) (by simp [results,Tryz.results80,go_sem,z0,z1]) rfl
        ⟨by rw [HV.out];rfl,by rw [HV.out];exact HS6.out.ch HC0 (by omega) (by omega),HC6.out.then HC0 (fun i hi=>.inr (by omega))⟩
      ·simp only [bQ,fA,fB] at HG6 ⊢;have hx0:¬ x=0:=hnz x (dK _ _ _) rfl;have hx1:(x == 0)=false:=by simpa using hx0
       have HV:=hid (show (au sk (f+1) at_).run s=(s5,.err x) by rw [HNX0.out,aq HX5.out]);obtain ⟨p0,p1,p2,p3,p4⟩:=ak HP6.out;obtain ⟨g0,g1,g2,g3,g4⟩:=ak HG6.out;go_wp2_with fail;have hf:=aS HP6.out ([],[]);obtain ⟨z0,z1,-,-,-⟩:=ak hf;have HC0:=aN (S:=fun j=>j=w.heap.size+1) (Ch.refl _ wc) rfl (.string (ap [])) (.string (ap []))
       exact bodyPost_ret (v:=.tuple #[.agg #[.string (ap []),.string (ap [])],.bool false,.int .i64 x]) (by simp [results,Tryz.results80,go_sem,z0,z1]) rfl
        ⟨by rw [HV.out];rfl,by rw [HV.out];exact HS6.out.ch HC0 (by omega) (by omega),HC6.out.then HC0 (fun i hi=>.inr (by omega))⟩
     ·rw [hl] at a0;have HRG:=hid (show (au sk (f+1) at_).run s=(eR sk n).run s2 by unfold au;rw [HRF.out,if_pos hl]);have HLFN:=hid (HLF.out w3 n (.agg #[.bool n.leaf,.slice A1 n.keys.length c1,.slice A2 n.cells.length c2,.slice A3 n.kids.length c3]) HL3.out HN3.out.val HSM.out HGD.out);rw [hl] at HLFN;have HCK:=hid (bW HGD.out hl).2.1;go_wp2_with fail;refine HLFN.out.mono ?_;rintro e w4 ⟨rfl,hb⟩;have HS4:=hid (HS3.out.ch (S:=fun _=>False) (Ch.of_below hb) id id);have HC4:=hid (HC3.out.trans (Ch.of_below hb));have HX4:=hid (ab HX3.out hb);have HP4:=hid (ab HP3.out hb);have HN4:=hid (HN3.out.keep hb);have HK4:=hid (HK3.out.keep hb);have hsz4:=hb.size;clear hb a0 a1 a2 a3 a4 q0 q1 q2 q3;obtain ⟨a0,a1,a2,a3,a4⟩:=aa HX4.out;rw [hl] at a0;by_cases h0:0≤sk.lf n∧sk.lf n<n.keys.length
      ·obtain ⟨i,hi⟩:∃ i:Nat,sk.lf n=i:=⟨(sk.lf n).toNat,by omega⟩;have HV0:=hid (show (au sk (f+1) at_).run s=(fZ n i).run s2 by
        rw [HRG.out];unfold eR;rw [if_pos h0,hi,Int.toNat_natCast];rfl)
       rw [hi];have hik:i<n.keys.length:=by omega
       have hi0:(0:Int)≤(i:Int):=by omega
       have hi1:(i:Int)<(n.keys.length:Int):=by omega
       have HPA:=hid (jq n i (.slice A1 n.keys.length c1) (.slice A2 n.cells.length c2) (.slice A3 n.kids.length c3) gs gm s2 w4 HS4.out (by
        obtain ⟨vk,vc,vd,he,i1,i2,i3⟩:=HN4.out;injection he with he
        obtain ⟨rfl,rfl,rfl⟩:=kx he;exact ⟨i1.sl,i2.sl,i3.sl⟩) HSM.out hik HCK.out _ HK4.out (by omega))
       rw [hl] at HPA;unfold bt at HPA;clear h0 hi;go_wp2_with fail;refine HPA.out.mono ?_;rintro e w5 ⟨rfl,hs,hc⟩;have HP5:=hid (hc.keep HP4.out (by omega));have HC5:=hid (HC4.out.trans hc);have hsz5:=hc.size;obtain ⟨⟨s5,a⟩,hx⟩:∃ x,(fZ n i).run s2=x:=⟨_,rfl⟩;rw [hx] at hs ⊢;have HV:=hid (HV0.out.trans hx);have HS5:=hid hs;clear hs hc a0 a1 a2 a3 a4 hx;obtain ⟨p0,p1,p2,p3,p4⟩:=ak HP5.out;unfold dm;go_wp2_with fail;have hf:=aS HP5.out (bQ a);obtain ⟨z0,z1,-,-,-⟩:=ak hf;have HC0:=aN (S:=fun j=>j=w.heap.size+1) (Ch.refl _ w5) rfl (.string (ap (bQ a).1)) (.string (ap (bQ a).2))
       exact bodyPost_ret (v:=dm a) (by simp [results,Tryz.results80,go_sem,dm,z0,z1]) rfl
        ⟨by rw [HV.out],by rw [HV.out];exact HS5.out.ch HC0 (by omega) (by omega),HC5.out.then HC0 (fun i hi=>.inr (by omega))⟩
      ·have HV:=hid (show (au sk (f+1) at_).run s=(s2,.ok none) by
        rw [HRG.out];unfold eR;rw [if_neg h0];rfl)
       by_cases h1:sk.lf n<0
       ·clear h0;go_wp2_with fail;refine (bE 0 w4).mono ?_;rintro e w5 ⟨rfl,hb⟩;have HS5:=hid (HS4.out.ch (S:=fun _=>False) (Ch.of_below hb) id id);have HC5:=hid (HC4.out.trans (Ch.of_below hb));have HP5:=hid (ab HP4.out hb);have HSZ5:=hb.size;clear hb;obtain ⟨p0,p1,p2,p3,p4⟩:=ak HP5.out;go_wp2_with fail;have hf:=aS HP5.out ([],[]);obtain ⟨z0,z1,-,-,-⟩:=ak hf;have y0:((w5.setCell ⟨w.heap.size+1,0,none⟩ (.string ⟨#[]⟩)).setCell ⟨w.heap.size+1,1,none⟩ (.string ⟨#[]⟩)).cell? ⟨w.heap.size+1,0,none⟩=some (.string ⟨#[]⟩):=z0;have y1:((w5.setCell ⟨w.heap.size+1,0,none⟩ (.string ⟨#[]⟩)).setCell ⟨w.heap.size+1,1,none⟩ (.string ⟨#[]⟩)).cell? ⟨w.heap.size+1,1,none⟩=some (.string ⟨#[]⟩):=z1;have HC0:=aN (S:=fun j=>j=w.heap.size+1) (Ch.refl _ w5) rfl (.string ⟨#[]⟩) (.string ⟨#[]⟩)
        exact bodyPost_ret (v:=.tuple #[.agg #[.string ⟨#[]⟩,.string ⟨#[]⟩],.bool false,.int .i64 0]) (by simp [results,Tryz.results80,go_sem,y0,y1]) rfl
         ⟨by rw [HV.out];rfl,by rw [HV.out];exact HS5.out.ch HC0 (by omega) (by omega),HC5.out.then HC0 (fun i hi=>.inr (by omega))⟩
       ·have h2:(n.keys.length:Int)≤sk.lf n:=by omega
        have h3:(0:Int)≤sk.lf n:=by omega
        clear h0 h1;go_wp2_with fail;refine (bE 0 w4).mono ?_;rintro e w5 ⟨rfl,hb⟩;have HS5:=hid (HS4.out.ch (S:=fun _=>False) (Ch.of_below hb) id id);have HC5:=hid (HC4.out.trans (Ch.of_below hb));have HP5:=hid (ab HP4.out hb);have HSZ5:=hb.size;clear hb;obtain ⟨p0,p1,p2,p3,p4⟩:=ak HP5.out;go_wp2_with fail;have hf:=aS HP5.out ([],[]);obtain ⟨z0,z1,-,-,-⟩:=ak hf;have y0:((w5.setCell ⟨w.heap.size+1,0,none⟩ (.string ⟨#[]⟩)).setCell ⟨w.heap.size+1,1,none⟩ (.string ⟨#[]⟩)).cell? ⟨w.heap.size+1,0,none⟩=some (.string ⟨#[]⟩):=z0;have y1:((w5.setCell ⟨w.heap.size+1,0,none⟩ (.string ⟨#[]⟩)).setCell ⟨w.heap.size+1,1,none⟩ (.string ⟨#[]⟩)).cell? ⟨w.heap.size+1,1,none⟩=some (.string ⟨#[]⟩):=z1;have HC0:=aN (S:=fun j=>j=w.heap.size+1) (Ch.refl _ w5) rfl (.string ⟨#[]⟩) (.string ⟨#[]⟩)
        exact bodyPost_ret (v:=.tuple #[.agg #[.string ⟨#[]⟩,.string ⟨#[]⟩],.bool false,.int .i64 0]) (by simp [results,Tryz.results80,go_sem,y0,y1]) rfl
         ⟨by rw [HV.out];rfl,by rw [HV.out];exact HS5.out.ch HC0 (by omega) (by omega),HC5.out.then HC0 (fun i hi=>.inr (by omega))⟩
end Go.Proofs.YtknioodagnjchaaGreatDoor
namespace Go.Proofs.YtknioodagnjchaaGreatDoor
open Go.Lib (hid)
open Go.RowKit
structure FtK (k:By) (past:Bool) (b1 b2 b3:Nat) (W:World):Prop where
 bk:Bx W b1 9 (.string (ap k))
 bp:Bx W b2 4 (.bool past)
 bd:Bx W b3 9 (.string (ap k))
theorem FtK.ch {k:By} {past:Bool} {b1 b2 b3:Nat} {W W':World} {S:Nat→Prop} (h:FtK k past b1 b2 b3 W) (hc:Ch S W W') (h1:¬ S b1) (h2:¬ S b2) (h3:¬ S b3):FtK k past b1 b2 b3 W':=⟨h.bk.ch hc h1,h.bp.ch hc h2,h.bd.ch hc h3⟩
theorem nw {n:Nd} (hg:aF n=true) (hl:n.leaf=false) (k:By):(0:Int)≤(fU n k true:Int)∧(fU n k true:Int)<n.kids.length:=by obtain ⟨h0,-,h1,-⟩:=aI hg hl;have:=(ll (n:=n) (k:=k) true (rises_pw.1 h0).2).2.2;omega
theorem tf (k:By) (past:Bool) (b1 b2 b3 gs gm:Nat) (h1:¬ (b1=gs∨b1=gm)) (h2:¬ (b2=gs∨b2=gm)) (h3:¬ (b3=gs∨b3=gm)):∀ (f:Nat),f≤20→∀ (at_:Int) (s:Sf) (w:World),ShIs w gs gm s→FtK k past b1 b2 b3 w→
  Calls Tryz.prog 80 #[.agg #[.func (.func 77) #[] #[.pointer (some ⟨b1,0,none⟩),.pointer (some ⟨b2,0,none⟩)],.func (.func 129) #[] #[.pointer (some ⟨b3,0,none⟩)],.int .i64 1],bt gs,.int .i64 at_,.int .i64 (21 - f:Int)] w fun e w'=>e=.returned (dm ((au (cY k past) f at_).run s).2)∧ShIs w' gs gm ((au (cY k past) f at_).run s).1∧Ch (fun k=>k=gs∨k=gm) w w':=by
 intro f
 induction f with
 | zero=>
   exact fun hf at_ s w hS hL=>mD (FtK k past b1 b2 b3) (cY k past) b1 b2 b3 gs gm rfl
    (fun W n v hL hv hm hg=>mG n k past b1 b2 v W hv (hm.bd (by decide)) hg hL.bk hL.bp)
    (fun W n v hL hv hm hg=>i9 n k past b3 b2 v W hv (hm.bd (by decide)) hg hL.bd hL.bp)
    (fun W W' hL hc=>hL.ch hc h1 h2 h3) (fun n hg hl=>nw hg hl k) 0 hf at_ s w hS hL (fun f' e=>absurd e (by omega))
 | succ f ih=>
   exact fun hf at_ s w hS hL=>mD (FtK k past b1 b2 b3) (cY k past) b1 b2 b3 gs gm rfl
    (fun W n v hL hv hm hg=>mG n k past b1 b2 v W hv (hm.bd (by decide)) hg hL.bk hL.bp)
    (fun W n v hL hv hm hg=>i9 n k past b3 b2 v W hv (hm.bd (by decide)) hg hL.bd hL.bp)
    (fun W W' hL hc=>hL.ch hc h1 h2 h3) (fun n hg hl=>nw hg hl k) (f+1) hf at_ s w hS hL (fun f' e at_ s w hS hL=>by
      obtain rfl:f'=f:=by omega
      exact ih (by omega) at_ s w hS hL)
theorem uX (k:By) (past:Bool) (b1 b2 b3 gs gm:Nat) (h1:¬ (b1=gs∨b1=gm)) (h2:¬ (b2=gs∨b2=gm)) (h3:¬ (b3=gs∨b3=gm)):∀ (f:Nat),f≤20→∀ (at_:Int) (s:Sf) (w:World),ShIs w gs gm s→FtK k past b1 b2 b3 w→
  Calls Tryz.prog 80 #[.agg #[.func (.func 81) #[] #[.pointer (some ⟨b1,0,none⟩),.pointer (some ⟨b2,0,none⟩)],.func (.func 129) #[] #[.pointer (some ⟨b3,0,none⟩)],.int .i64 (-1)],bt gs,.int .i64 at_,.int .i64 (21 - f:Int)] w fun e w'=>e=.returned (dm ((au (kE k past) f at_).run s).2)∧ShIs w' gs gm ((au (kE k past) f at_).run s).1∧Ch (fun k=>k=gs∨k=gm) w w':=by
 intro f
 induction f with
 | zero=>
   exact fun hf at_ s w hS hL=>qj (FtK k past b1 b2 b3) (kE k past) b1 b2 b3 gs gm rfl
    (fun W n v hL hv hm hg=>qo n k past b1 b2 v W hv (hm.bd (by decide)) hg hL.bk hL.bp)
    (fun W n v hL hv hm hg=>i9 n k past b3 b2 v W hv (hm.bd (by decide)) hg hL.bd hL.bp)
    (fun W W' hL hc=>hL.ch hc h1 h2 h3) (fun n hg hl=>nw hg hl k) 0 hf at_ s w hS hL (fun f' e=>absurd e (by omega))
 | succ f ih=>
   exact fun hf at_ s w hS hL=>qj (FtK k past b1 b2 b3) (kE k past) b1 b2 b3 gs gm rfl
    (fun W n v hL hv hm hg=>qo n k past b1 b2 v W hv (hm.bd (by decide)) hg hL.bk hL.bp)
    (fun W n v hL hv hm hg=>i9 n k past b3 b2 v W hv (hm.bd (by decide)) hg hL.bd hL.bp)
    (fun W W' hL hc=>hL.ch hc h1 h2 h3) (fun n hg hl=>nw hg hl k) (f+1) hf at_ s w hS hL (fun f' e at_ s w hS hL=>by
      obtain rfl:f'=f:=by omega
      exact ih (by omega) at_ s w hS hL)
theorem sQ (gs gm:Nat):∀ (f:Nat),f≤20→∀ (at_:Int) (s:Sf) (w:World),ShIs w gs gm s→
  Calls Tryz.prog 80 #[.agg #[.func (.func 83) #[] #[],.func (.func 82) #[] #[],.int .i64 (-1)],bt gs,.int .i64 at_,.int .i64 (21 - f:Int)] w fun e w'=>e=.returned (dm ((au lastK f at_).run s).2)∧ShIs w' gs gm ((au lastK f at_).run s).1∧Ch (fun k=>k=gs∨k=gm) w w':=by
 intro f
 induction f with
 | zero=>
   exact fun hf at_ s w hS=>ms (fun _=>True) lastK gs gm rfl
    (fun W n v _ hv hm _=>mt n v W hv (hm.bd (by decide)))
    (fun W n v _ hv hm _=>mu n v W hv (hm.bd (by decide)))
    (fun W W' _ _=>trivial) (fun n hg hl=>by have:=(aI hg hl).2.2.1;show (0:Int)≤(n.kids.length:Int) - 1∧(n.kids.length:Int) - 1<n.kids.length;omega) 0 hf at_ s w hS trivial (fun f' e=>absurd e (by omega))
 | succ f ih=>
   exact fun hf at_ s w hS=>ms (fun _=>True) lastK gs gm rfl
    (fun W n v _ hv hm _=>mt n v W hv (hm.bd (by decide)))
    (fun W n v _ hv hm _=>mu n v W hv (hm.bd (by decide)))
    (fun W W' _ _=>trivial) (fun n hg hl=>by have:=(aI hg hl).2.2.1;show (0:Int)≤(n.kids.length:Int) - 1∧(n.kids.length:Int) - 1<n.kids.length;omega) (f+1) hf at_ s w hS trivial (fun f' e at_ s w hS _=>by
      obtain rfl:f'=f:=by omega
      exact ih (by omega) at_ s w hS)
theorem nO (k:By) (w:World):Calls Tryz.prog 79 #[.string (ap k)] w fun e w'=>e=.returned (.func (.func 129) #[] #[.pointer (some ⟨w.heap.size,0,none⟩)])∧Bx w' w.heap.size 9 (.string (ap k))∧Below w.heap.size w w':=by go_enter Tryz.func79,Tryz.ntmps79;go_wp2_with fail;go_ret;exact ⟨rfl,ag rfl,by go_grown⟩
section
open Sem
theorem fg (P:Program) (w:World) (a:Addr) (f:Fn) (b c:Array Value) (m:Mode):(store a (.func f b c) m).run P w=stored P w a (.func f b c) m:=run_store P w a _ m rfl
attribute [local go_sem] fg
theorem jr (k:By) (past:Bool) (at_:Int) (gs gm:Nat) (s:Sf) (w:World) (hS:ShIs w gs gm s):Calls Tryz.prog 34 #[bt gs,.int .i64 at_,.string (ap k),.bool past] w fun e w'=>e=.returned (dm ((au (cY k past) 20 at_).run s).2)∧ShIs w' gs gm ((au (cY k past) 20 at_).run s).1∧Ch (fun k=>k=gs∨k=gm) w w':=by
 have hgs:=aj hS.blk;have hgm:=hS.book.lt;obtain ⟨o1,ho1⟩:∃ o:Obj,o=.cells #[.string (ap k)] 9 (0,0):=⟨_,rfl⟩;obtain ⟨o2,ho2⟩:∃ o:Obj,o=.cells #[.bool past] 4 (0,0):=⟨_,rfl⟩;have HW1:=hid ((((Below.refl _ w).alloc (Nat.le_refl _) o1).alloc (by simp) o2).alloc (by simp;omega) (dj ([],[])));have HSZ:=hid (show (((w.alloc o1).alloc o2).alloc (dj ([],[]))).heap.size=w.heap.size+3 by simp);have HK1:=hid (ai (ai (ag (w0:=w) (g:=w.heap.size) (o:=o1) rfl) o2) (dj ([],[])));have HT1:=hid (ai (ag (w0:=w.alloc o1) (g:=w.heap.size+1) (o:=o2) (by simp)) (dj ([],[])));have HP1:=hid (ag (w0:=(w.alloc o1).alloc o2) (g:=w.heap.size+2) (o:=dj ([],[])) (by simp));have HS1:=hid (hS.ch (S:=fun _=>False) (Ch.of_below HW1.out) id id);clear hS;unfold bt;go_enter Tryz.func34,Tryz.ntmps34;go_upto_region 1 with fail
 generalize hw1:((w.alloc (.cells #[.string (ap k)] 9)).alloc (.cells #[.bool past] 4)).alloc (.cells #[.string ⟨#[]⟩,.string ⟨#[]⟩] 62)=w1 at *;have hw2:((w.alloc o1).alloc o2).alloc (dj ([],[]))=w1:=by rw [ho1,ho2];exact hw1
 rw [hw2] at HW1 HSZ HK1 HT1 HP1 HS1;clear hw1 hw2;rw [ho1] at HK1;rw [ho2] at HT1;clear ho1 ho2;have HBK:=hid (show Bx w1 w.heap.size 9 (.string (ap k)) from HK1.out);have HBP:=hid (show Bx w1 (w.heap.size+1) 4 (.bool past) from HT1.out);clear HK1 HT1;have k0:=HBK.out.cell;have k1:=HBK.out.lt;go_wp2_with fail;refine (nO k _).mono ?_;rintro e w2 ⟨rfl,hbx,hb⟩;have HS2:=hid (HS1.out.ch (S:=fun _=>False) (Ch.of_below hb) id id);have HW2:=hid (HW1.out.trans (hb.mono HW1.out.size));have HBK2:=hid (HBK.out.keep hb);have HBP2:=hid (HBP.out.keep hb);have HP2:=hid (ab HP1.out hb);rw [HSZ.out] at hbx;have HBD2:=hid hbx;have hsz:=HSZ.out;have hsz2:=hb.size;clear hbx hb k0 k1 HBK HBP HP1 HS1 HW1;go_upto_region 2 with fail
 have HB3:=hid ((Below.refl _ w2).alloc (Nat.le_refl _) (iA (.func (.func 77) #[] #[.pointer (some ⟨w.heap.size,0,none⟩),.pointer (some ⟨w.heap.size+1,0,none⟩)]) (.func (.func 129) #[] #[.pointer (some ⟨w.heap.size+3,0,none⟩)]) 1));have HQ3:=hid (ag (w0:=w2) (g:=w2.heap.size) (o:=iA (.func (.func 77) #[] #[.pointer (some ⟨w.heap.size,0,none⟩),.pointer (some ⟨w.heap.size+1,0,none⟩)]) (.func (.func 129) #[] #[.pointer (some ⟨w.heap.size+3,0,none⟩)]) 1) rfl);have HS3:=hid (HS2.out.ch (S:=fun _=>False) (Ch.of_below HB3.out) id id);have HP3:=hid (ab HP2.out HB3.out);have HW3:=hid (HW2.out.trans (HB3.out.mono HW2.out.size));have hsz3:w2.heap.size<(w2.alloc (iA (.func (.func 77) #[] #[.pointer (some ⟨w.heap.size,0,none⟩),.pointer (some ⟨w.heap.size+1,0,none⟩)]) (.func (.func 129) #[] #[.pointer (some ⟨w.heap.size+3,0,none⟩)]) 1)).heap.size:=by simp
 generalize hw1:w2.alloc (iA (.func (.func 77) #[] #[.pointer (some ⟨w.heap.size,0,none⟩),.pointer (some ⟨w.heap.size+1,0,none⟩)]) (.func (.func 129) #[] #[.pointer (some ⟨w.heap.size+3,0,none⟩)]) 1)=w3 at *;have HFN:=hid (tf k past w.heap.size (w.heap.size+1) (w.heap.size+3) gs gm (by omega) (by omega) (by omega) 20 (by decide) at_ s w3 HS3.out ⟨HBK2.out.keep HB3.out,HBP2.out.keep HB3.out,HBD2.out.keep HB3.out⟩);rw [show (21 - ((20:Nat):Int))=1 from rfl] at HFN;unfold bt at HFN;obtain ⟨⟨s4,a⟩,hx⟩:∃ x,(au (cY k past) 20 at_).run s=x:=⟨_,rfl⟩;rw [hx] at HFN;have HX0:=hid hx;clear hx;replace hw1:=(show _=w3 from hw1);unfold iA at hw1;rw [hw1];clear hw1;obtain ⟨q0,q1,q2,q3⟩:=dh HQ3.out;go_wp2_with fail;refine HFN.out.mono ?_;rintro e w4 ⟨rfl,hs,hc⟩;have HP4:=hid (hc.keep HP3.out (by omega));have HS4:=hid hs;have hsz4:=hc.size;have HC4:=hid ((Ch.of_below (S:=fun k=>k=gs∨k=gm) HW3.out).trans hc);clear hs hc q0 q1 q2 q3;obtain ⟨p0,p1,p2,p3,p4⟩:=ak HP4.out;unfold dm;go_wp2_with fail;have hf:=aS HP4.out (bQ a);obtain ⟨z0,z1,-,-,-⟩:=ak hf;have HC0:=aN (S:=fun j=>j=w.heap.size+1+1) (Ch.refl _ w4) rfl (.string (ap (bQ a).1)) (.string (ap (bQ a).2))
 exact bodyPost_ret (v:=dm a) (by simp [results,Tryz.results34,go_sem,dm,z0,z1]) rfl
  ⟨by rw [HX0.out],by rw [HX0.out];exact HS4.out.ch HC0 (by omega) (by omega),HC4.out.then HC0 (fun i hi=>.inr (by omega))⟩
theorem mW (k:By) (past:Bool) (at_:Int) (gs gm:Nat) (s:Sf) (w:World) (hS:ShIs w gs gm s):Calls Tryz.prog 36 #[bt gs,.int .i64 at_,.string (ap k),.bool past] w fun e w'=>e=.returned (dm ((au (kE k past) 20 at_).run s).2)∧ShIs w' gs gm ((au (kE k past) 20 at_).run s).1∧Ch (fun k=>k=gs∨k=gm) w w':=by
 have hgs:=aj hS.blk;have hgm:=hS.book.lt;obtain ⟨o1,ho1⟩:∃ o:Obj,o=.cells #[.string (ap k)] 9 (0,0):=⟨_,rfl⟩;obtain ⟨o2,ho2⟩:∃ o:Obj,o=.cells #[.bool past] 4 (0,0):=⟨_,rfl⟩;have HW1:=hid ((((Below.refl _ w).alloc (Nat.le_refl _) o1).alloc (by simp) o2).alloc (by simp;omega) (dj ([],[])));have HSZ:=hid (show (((w.alloc o1).alloc o2).alloc (dj ([],[]))).heap.size=w.heap.size+3 by simp);have HK1:=hid (ai (ai (ag (w0:=w) (g:=w.heap.size) (o:=o1) rfl) o2) (dj ([],[])));have HT1:=hid (ai (ag (w0:=w.alloc o1) (g:=w.heap.size+1) (o:=o2) (by simp)) (dj ([],[])));have HP1:=hid (ag (w0:=(w.alloc o1).alloc o2) (g:=w.heap.size+2) (o:=dj ([],[])) (by simp));have HS1:=hid (hS.ch (S:=fun _=>False) (Ch.of_below HW1.out) id id);clear hS;unfold bt;go_enter Tryz.func36,Tryz.ntmps36;go_upto_region 1 with fail
 generalize hw1:((w.alloc (.cells #[.string (ap k)] 9)).alloc (.cells #[.bool past] 4)).alloc (.cells #[.string ⟨#[]⟩,.string ⟨#[]⟩] 62)=w1 at *;have hw2:((w.alloc o1).alloc o2).alloc (dj ([],[]))=w1:=by rw [ho1,ho2];exact hw1
 rw [hw2] at HW1 HSZ HK1 HT1 HP1 HS1;clear hw1 hw2;rw [ho1] at HK1;rw [ho2] at HT1;clear ho1 ho2;have HBK:=hid (show Bx w1 w.heap.size 9 (.string (ap k)) from HK1.out);have HBP:=hid (show Bx w1 (w.heap.size+1) 4 (.bool past) from HT1.out);clear HK1 HT1;have k0:=HBK.out.cell;have k1:=HBK.out.lt;go_wp2_with fail;refine (nO k _).mono ?_;rintro e w2 ⟨rfl,hbx,hb⟩;have HS2:=hid (HS1.out.ch (S:=fun _=>False) (Ch.of_below hb) id id);have HW2:=hid (HW1.out.trans (hb.mono HW1.out.size));have HBK2:=hid (HBK.out.keep hb);have HBP2:=hid (HBP.out.keep hb);have HP2:=hid (ab HP1.out hb);rw [HSZ.out] at hbx;have HBD2:=hid hbx;have hsz:=HSZ.out;have hsz2:=hb.size;clear hbx hb k0 k1 HBK HBP HP1 HS1 HW1;go_upto_region 2 with fail
 have HB3:=hid ((Below.refl _ w2).alloc (Nat.le_refl _) (iA (.func (.func 81) #[] #[.pointer (some ⟨w.heap.size,0,none⟩),.pointer (some ⟨w.heap.size+1,0,none⟩)]) (.func (.func 129) #[] #[.pointer (some ⟨w.heap.size+3,0,none⟩)]) (-1)));have HQ3:=hid (ag (w0:=w2) (g:=w2.heap.size) (o:=iA (.func (.func 81) #[] #[.pointer (some ⟨w.heap.size,0,none⟩),.pointer (some ⟨w.heap.size+1,0,none⟩)]) (.func (.func 129) #[] #[.pointer (some ⟨w.heap.size+3,0,none⟩)]) (-1)) rfl);have HS3:=hid (HS2.out.ch (S:=fun _=>False) (Ch.of_below HB3.out) id id);have HP3:=hid (ab HP2.out HB3.out);have HW3:=hid (HW2.out.trans (HB3.out.mono HW2.out.size));have hsz3:w2.heap.size<(w2.alloc (iA (.func (.func 81) #[] #[.pointer (some ⟨w.heap.size,0,none⟩),.pointer (some ⟨w.heap.size+1,0,none⟩)]) (.func (.func 129) #[] #[.pointer (some ⟨w.heap.size+3,0,none⟩)]) (-1))).heap.size:=by simp
 generalize hw1:w2.alloc (iA (.func (.func 81) #[] #[.pointer (some ⟨w.heap.size,0,none⟩),.pointer (some ⟨w.heap.size+1,0,none⟩)]) (.func (.func 129) #[] #[.pointer (some ⟨w.heap.size+3,0,none⟩)]) (-1))=w3 at *;have HFN:=hid (uX k past w.heap.size (w.heap.size+1) (w.heap.size+3) gs gm (by omega) (by omega) (by omega) 20 (by decide) at_ s w3 HS3.out ⟨HBK2.out.keep HB3.out,HBP2.out.keep HB3.out,HBD2.out.keep HB3.out⟩);rw [show (21 - ((20:Nat):Int))=1 from rfl] at HFN;unfold bt at HFN;obtain ⟨⟨s4,a⟩,hx⟩:∃ x,(au (kE k past) 20 at_).run s=x:=⟨_,rfl⟩;rw [hx] at HFN;have HX0:=hid hx;clear hx;replace hw1:=(show _=w3 from hw1);unfold iA at hw1;rw [hw1];clear hw1;obtain ⟨q0,q1,q2,q3⟩:=dh HQ3.out;go_wp2_with fail;refine HFN.out.mono ?_;rintro e w4 ⟨rfl,hs,hc⟩;have HP4:=hid (hc.keep HP3.out (by omega));have HS4:=hid hs;have hsz4:=hc.size;have HC4:=hid ((Ch.of_below (S:=fun k=>k=gs∨k=gm) HW3.out).trans hc);clear hs hc q0 q1 q2 q3;obtain ⟨p0,p1,p2,p3,p4⟩:=ak HP4.out;unfold dm;go_wp2_with fail;have hf:=aS HP4.out (bQ a);obtain ⟨z0,z1,-,-,-⟩:=ak hf;have HC0:=aN (S:=fun j=>j=w.heap.size+1+1) (Ch.refl _ w4) rfl (.string (ap (bQ a).1)) (.string (ap (bQ a).2))
 exact bodyPost_ret (v:=dm a) (by simp [results,Tryz.results36,go_sem,dm,z0,z1]) rfl
  ⟨by rw [HX0.out],by rw [HX0.out];exact HS4.out.ch HC0 (by omega) (by omega),HC4.out.then HC0 (fun i hi=>.inr (by omega))⟩
theorem lV (at_:Int) (gs gm:Nat) (s:Sf) (w:World) (hS:ShIs w gs gm s):Calls Tryz.prog 38 #[bt gs,.int .i64 at_] w fun e w'=>e=.returned (dm ((au lastK 20 at_).run s).2)∧ShIs w' gs gm ((au lastK 20 at_).run s).1∧Ch (fun k=>k=gs∨k=gm) w w':=by
 have hgs:=aj hS.blk;have hgm:=hS.book.lt;have HW2:=hid ((Below.refl _ w).alloc (Nat.le_refl _) (dj ([],[])));have HSZ:=hid (show (w.alloc (dj ([],[]))).heap.size=w.heap.size+1 by simp);have HP2:=hid (ag (w0:=w) (g:=w.heap.size) (o:=dj ([],[])) rfl);have HS2:=hid (hS.ch (S:=fun _=>False) (Ch.of_below HW2.out) id id);clear hS;unfold bt;go_enter Tryz.func38,Tryz.ntmps38;go_upto_region 1 with fail
 generalize hw1:w.alloc (.cells #[.string ⟨#[]⟩,.string ⟨#[]⟩] 62)=w2 at *;have hw2:w.alloc (dj ([],[]))=w2:=hw1;rw [hw2] at HW2 HSZ HP2 HS2;clear hw1 hw2 HSZ;go_upto_region 3 with fail
 have HB3:=hid ((Below.refl _ w2).alloc (Nat.le_refl _) (iA (.func (.func 83) #[] #[]) (.func (.func 82) #[] #[]) (-1)));have HQ3:=hid (ag (w0:=w2) (g:=w2.heap.size) (o:=iA (.func (.func 83) #[] #[]) (.func (.func 82) #[] #[]) (-1)) rfl);have HS3:=hid (HS2.out.ch (S:=fun _=>False) (Ch.of_below HB3.out) id id);have HP3:=hid (ab HP2.out HB3.out);have HW3:=hid (HW2.out.trans (HB3.out.mono HW2.out.size));have hsz3:w2.heap.size<(w2.alloc (iA (.func (.func 83) #[] #[]) (.func (.func 82) #[] #[]) (-1))).heap.size:=by simp
 generalize hw1:w2.alloc (iA (.func (.func 83) #[] #[]) (.func (.func 82) #[] #[]) (-1))=w3 at *;have HFN:=hid (sQ gs gm 20 (by decide) at_ s w3 HS3.out);rw [show (21 - ((20:Nat):Int))=1 from rfl] at HFN;unfold bt at HFN;obtain ⟨⟨s4,a⟩,hx⟩:∃ x,(au lastK 20 at_).run s=x:=⟨_,rfl⟩;rw [hx] at HFN;have HX0:=hid hx;clear hx;replace hw1:=(show _=w3 from hw1);unfold iA at hw1;rw [hw1];clear hw1;obtain ⟨q0,q1,q2,q3⟩:=dh HQ3.out;go_wp2_with fail;refine HFN.out.mono ?_;rintro e w4 ⟨rfl,hs,hc⟩;have HP4:=hid (hc.keep HP3.out (by omega));have HS4:=hid hs;have hsz4:=hc.size;have HC4:=hid ((Ch.of_below (S:=fun k=>k=gs∨k=gm) HW3.out).trans hc);clear hs hc q0 q1 q2 q3;obtain ⟨p0,p1,p2,p3,p4⟩:=ak HP4.out;unfold dm;go_wp2_with fail;have hf:=aS HP4.out (bQ a);obtain ⟨z0,z1,-,-,-⟩:=ak hf;have HC0:=aN (S:=fun j=>j=w.heap.size) (Ch.refl _ w4) rfl (.string (ap (bQ a).1)) (.string (ap (bQ a).2))
 exact bodyPost_ret (v:=dm a) (by simp [results,Tryz.results38,go_sem,dm,z0,z1]) rfl
  ⟨by rw [HX0.out],by rw [HX0.out];exact HS4.out.ch HC0 (by omega) (by omega),HC4.out.then HC0 (fun i hi=>.inr (by omega))⟩
end
end Go.Proofs.YtknioodagnjchaaGreatDoor
