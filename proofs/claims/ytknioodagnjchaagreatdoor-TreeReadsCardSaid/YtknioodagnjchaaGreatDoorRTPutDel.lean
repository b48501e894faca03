/- tree: altered, Put, Del. -/
import Derived.Test.YtknioodagnjchaaGreatDoorRTRoot
import Derived.Test.YtknioodagnjchaaGreatDoorRTAltP
set_option maxRecDepth 100000
set_option maxHeartbeats 4000000
namespace Go.Proofs.YtknioodagnjchaaGreatDoor
open Go.Lib (hid)
open Go.RowKit
def tH (e:Ending):Ans Bool→Prop
 | .ok b=>e=.returned (.tuple #[.bool b,.int .i64 0])
 | .err x=>e=.returned (.tuple #[.bool false,.int .i64 x])
def oB (at_:Int):Option Nd→Pro Bool
 | none=>.pure false
 | some n=>(cT 1 at_ n).bind fun _=>.pure true
theorem jt (act:Nd→Pro (Option Nd)) (at_:Int) (k:By):ca act at_ k=(aT act k 19 at_).bind (oB at_):=by unfold ca;congr 1
theorem mG:∀ (f:Nat) (a:Int) (n:Nd),(cT f a n).NZ:=by
 have ht:∀ (a:Int) (n:Nd),(ex a n).NZ:=fun a n=>by
  unfold ex
  split
  ·exact ci _ _
  ·exact fun o=>Pro.NZ.bind _ _ (fj _ _ _) (fun _=>ci _ _)
 intro f
 induction f with
 | zero=>intro a n;exact ht a n
 | succ f ih=>
   intro a n;unfold cT
   split
   ·exact Pro.NZ.bind _ _ (eo _) (fun c=>ih a c)
   ·exact ht a n
theorem mq (k:By) (g1 g2 gs gm:Nat) (at_:Int) (s:Sf) (w:World) (hS:ShIs w gs gm s) (hC:Cap w.heap.size g1 g2 gs gm k w):
  Calls Tryz.prog 67 #[bV gs,.int .i64 at_,.string (al k),.func (.func 73) #[] #[.pointer (some ⟨g1,0,none⟩),.pointer (some ⟨g2,0,none⟩)]] w fun e w'=>tH e ((ca (aQ k) at_ k).run s).2∧ShIs w' gs gm ((ca (aQ k) at_ k).run s).1∧Ch (fun k=>k=gs∨k=gm) w w':=by
 have HRT:=hid (show (ca (aQ k) at_ k).run s=((aT (aQ k) k 19 at_).bind (oB at_)).run s by rw [jt]);have HAL:=hid (kJ k g1 g2 gs gm 19 at_ s w (by omega) hS hC);have hgs:=aj hS.blk;have hgm:=hS.book.lt;rw [show (20 - ((19:Nat):Int))=1 by omega] at HAL;unfold bV at HAL ⊢;clear hS hC;go_enter Tryz.func67,Tryz.ntmps67;go_wp2_with fail;refine HAL.out.mono ?_;rintro e w1 ⟨hp,hs,hc⟩;have HS1:=hid hs;have HC1:=hid hc;have hsz:=hc.size;clear hs hc HAL;have hnz:=Pro.NZ.run (aT (aQ k) k 19 at_) s;obtain ⟨⟨s1,a⟩,hx⟩:∃ x,(aT (aQ k) k 19 at_).run s=x:=⟨_,rfl⟩;rw [hx] at HS1 hp hnz;have HX:=hid hx;clear hx;rcases a with (_ | n) | x
 ·obtain ⟨v,rfl,m,B1,l1,e1,B2,l2,e2,B3,l3,e3,rfl⟩:=hp;have HW:=hid (HRT.out.trans (af HX.out));have HS2:=hid (HS1.out.ch (S:=fun _=>False) (Ch.alloc (Ch.refl _ w1) (ap m (.slice B1 l1 e1) (.slice B2 l2 e2) (.slice B3 l3 e3))) id id);have HC2:=hid (Ch.alloc HC1.out (ap m (.slice B1 l1 e1) (.slice B2 l2 e2) (.slice B3 l3 e3)));go_wp2_with fail;go_ret2;rw [HW.out];exact ⟨rfl,HS2.out,HC2.out⟩
 ·obtain ⟨v,rfl,⟨vk,vc,vd,rfl,y1,y2,y3⟩,hft,hsm⟩:=hp;have HRW:=hid (HRT.out.trans (af HX.out));obtain ⟨B1,e1,rfl,-,-⟩:=y1.cap;obtain ⟨B2,e2,rfl,-,-⟩:=y2.cap;obtain ⟨B3,e3,rfl,-,-⟩:=y3.cap;have HB:=hid (show Below w1.heap.size w1 (w1.alloc (ap n (.slice B1 n.keys.length e1) (.slice B2 n.cells.length e2) (.slice B3 n.kids.length e3))) from (Below.refl _ w1).alloc (Nat.le_refl _) _);have HX2:=hid (ag (w0:=w1) (g:=w1.heap.size) (o:=ap n (.slice B1 n.keys.length e1) (.slice B2 n.cells.length e2) (.slice B3 n.kids.length e3)) rfl);have HNF:=hid ((show NdF w.heap.size w1 (.agg #[.bool n.leaf,.slice B1 n.keys.length e1,.slice B2 n.cells.length e2,.slice B3 n.kids.length e3]) n from ⟨_,_,_,rfl,y1,y2,y3⟩).keep HB.out);have HFT:=hid hft;have HSM:=hid (hsm.mono (show 231≤400 by decide));clear y1 y2 y3 hft hsm;go_upto_region 2 with fail
  generalize hw1:w1.alloc (.cells #[.bool n.leaf,.slice B1 n.keys.length e1,.slice B2 n.cells.length e2,.slice B3 n.kids.length e3] 110)=w2 at *;have hw2:w1.alloc (ap n (.slice B1 n.keys.length e1) (.slice B2 n.cells.length e2) (.slice B3 n.kids.length e3))=w2:=hw1;rw [hw2] at HB HX2 HNF;clear hw1 hw2;have HS2:=hid (HS1.out.ch (S:=fun _=>False) (Ch.of_below HB.out) id id);have HC2:=hid (HC1.out.trans (Ch.of_below HB.out));have hsz2:=HB.out.size;obtain ⟨n0,n1,n2,n3,n4⟩:=aa HX2.out;have HRO:=hid (mF at_ n w.heap.size gs gm s1 _ w2 HS2.out HNF.out HFT.out HSM.out hgs hgm (by omega));unfold bV at HRO;go_wp2_with fail;refine HRO.out.mono ?_;rintro e w3 ⟨rfl,hs,hc⟩;have HS3:=hid hs;have HC3:=hid (HC2.out.trans hc);clear hs hc n0 n1 n2 n3 n4 HRO hnz;have hnz:=Pro.NZ.run (cT 1 at_ n) s1;obtain ⟨⟨s3,a⟩,hx⟩:∃ x,(cT 1 at_ n).run s1=x:=⟨_,rfl⟩;rw [hx] at HS3 hnz ⊢;rcases a with u | x
  ·have HW:=hid (HRW.out.trans (show (oB at_ (some n)).run s1=(s3,.ok true) from af hx));simp only [dj];go_wp2_with fail;go_ret2;rw [HW.out];exact ⟨rfl,HS3.out,HC3.out⟩
  ·have hx0:¬ x=0:=hnz x (mG _ _ _) rfl;have hx1:(x == 0)=false:=by simpa using hx0
   have HW:=hid (HRW.out.trans (show (oB at_ (some n)).run s1=(s3,.err x) from ak hx));simp only [dj];go_wp2_with fail;go_ret2;rw [HW.out];exact ⟨rfl,HS3.out,HC3.out⟩
 ·obtain ⟨v,dd,rfl,m,B1,l1,e1,B2,l2,e2,B3,l3,e3,rfl⟩:=hp;have HW:=hid (HRT.out.trans (ak HX.out));have hx0:¬ x=0:=hnz x (fD (ky k) k 19 at_) rfl;have hx1:(x == 0)=false:=by simpa using hx0
  have HS2:=hid (HS1.out.ch (S:=fun _=>False) (Ch.alloc (Ch.refl _ w1) (ap m (.slice B1 l1 e1) (.slice B2 l2 e2) (.slice B3 l3 e3))) id id);have HC2:=hid (Ch.alloc HC1.out (ap m (.slice B1 l1 e1) (.slice B2 l2 e2) (.slice B3 l3 e3)));cases dd
  ·go_wp2_with fail;go_ret2;rw [HW.out];exact ⟨rfl,HS2.out,HC2.out⟩
  ·go_wp2_with fail;go_ret2;rw [HW.out];exact ⟨rfl,HS2.out,HC2.out⟩
theorem mp (k vl:By) (g1 g2 g3 gs gm:Nat) (hkl:k.length≤64) (hvl:vl.length≤1000000)(at_:Int) (s:Sf) (w:World) (hS:ShIs w gs gm s) (hC:CapP w.heap.size g1 g2 g3 gs gm k vl w):
  Calls Tryz.prog 67 #[bV gs,.int .i64 at_,.string (al k),.func (.func 68) #[] #[.pointer (some ⟨g1,0,none⟩),.pointer (some ⟨g2,0,none⟩),.pointer (some ⟨g3,0,none⟩)]] w fun e w'=>tH e ((ca (aH k vl) at_ k).run s).2∧ShIs w' gs gm ((ca (aH k vl) at_ k).run s).1∧Ch (fun k=>k=gs∨k=gm) w w':=by
 have HRT:=hid (show (ca (aH k vl) at_ k).run s=((aT (aH k vl) k 19 at_).bind (oB at_)).run s by rw [jt]);have HAL:=hid (kH k vl g1 g2 g3 gs gm hkl hvl 19 at_ s w (by omega) hS hC);have hgs:=aj hS.blk;have hgm:=hS.book.lt;rw [show (20 - ((19:Nat):Int))=1 by omega] at HAL;unfold bV at HAL ⊢;clear hS hC;go_enter Tryz.func67,Tryz.ntmps67;go_wp2_with fail;refine HAL.out.mono ?_;rintro e w1 ⟨hp,hs,hc⟩;have HS1:=hid hs;have HC1:=hid hc;have hsz:=hc.size;clear hs hc HAL;have hnz:=Pro.NZ.run (aT (aH k vl) k 19 at_) s;obtain ⟨⟨s1,a⟩,hx⟩:∃ x,(aT (aH k vl) k 19 at_).run s=x:=⟨_,rfl⟩;rw [hx] at HS1 hp hnz;have HX:=hid hx;clear hx;rcases a with (_ | n) | x
 ·obtain ⟨v,rfl,m,B1,l1,e1,B2,l2,e2,B3,l3,e3,rfl⟩:=hp;have HW:=hid (HRT.out.trans (af HX.out));have HS2:=hid (HS1.out.ch (S:=fun _=>False) (Ch.alloc (Ch.refl _ w1) (ap m (.slice B1 l1 e1) (.slice B2 l2 e2) (.slice B3 l3 e3))) id id);have HC2:=hid (Ch.alloc HC1.out (ap m (.slice B1 l1 e1) (.slice B2 l2 e2) (.slice B3 l3 e3)));go_wp2_with fail;go_ret2;rw [HW.out];exact ⟨rfl,HS2.out,HC2.out⟩
 ·obtain ⟨v,rfl,⟨vk,vc,vd,rfl,y1,y2,y3⟩,hft,hsm⟩:=hp;have HRW:=hid (HRT.out.trans (af HX.out));obtain ⟨B1,e1,rfl,-,-⟩:=y1.cap;obtain ⟨B2,e2,rfl,-,-⟩:=y2.cap;obtain ⟨B3,e3,rfl,-,-⟩:=y3.cap;have HB:=hid (show Below w1.heap.size w1 (w1.alloc (ap n (.slice B1 n.keys.length e1) (.slice B2 n.cells.length e2) (.slice B3 n.kids.length e3))) from (Below.refl _ w1).alloc (Nat.le_refl _) _);have HX2:=hid (ag (w0:=w1) (g:=w1.heap.size) (o:=ap n (.slice B1 n.keys.length e1) (.slice B2 n.cells.length e2) (.slice B3 n.kids.length e3)) rfl);have HNF:=hid ((show NdF w.heap.size w1 (.agg #[.bool n.leaf,.slice B1 n.keys.length e1,.slice B2 n.cells.length e2,.slice B3 n.kids.length e3]) n from ⟨_,_,_,rfl,y1,y2,y3⟩).keep HB.out);have HFT:=hid hft;have HSM:=hid (hsm.mono (show 231≤400 by decide));clear y1 y2 y3 hft hsm;go_upto_region 2 with fail
  generalize hw1:w1.alloc (.cells #[.bool n.leaf,.slice B1 n.keys.length e1,.slice B2 n.cells.length e2,.slice B3 n.kids.length e3] 110)=w2 at *;have hw2:w1.alloc (ap n (.slice B1 n.keys.length e1) (.slice B2 n.cells.length e2) (.slice B3 n.kids.length e3))=w2:=hw1;rw [hw2] at HB HX2 HNF;clear hw1 hw2;have HS2:=hid (HS1.out.ch (S:=fun _=>False) (Ch.of_below HB.out) id id);have HC2:=hid (HC1.out.trans (Ch.of_below HB.out));have hsz2:=HB.out.size;obtain ⟨n0,n1,n2,n3,n4⟩:=aa HX2.out;have HRO:=hid (mF at_ n w.heap.size gs gm s1 _ w2 HS2.out HNF.out HFT.out HSM.out hgs hgm (by omega));unfold bV at HRO;go_wp2_with fail;refine HRO.out.mono ?_;rintro e w3 ⟨rfl,hs,hc⟩;have HS3:=hid hs;have HC3:=hid (HC2.out.trans hc);clear hs hc n0 n1 n2 n3 n4 HRO hnz;have hnz:=Pro.NZ.run (cT 1 at_ n) s1;obtain ⟨⟨s3,a⟩,hx⟩:∃ x,(cT 1 at_ n).run s1=x:=⟨_,rfl⟩;rw [hx] at HS3 hnz ⊢;rcases a with u | x
  ·have HW:=hid (HRW.out.trans (show (oB at_ (some n)).run s1=(s3,.ok true) from af hx));simp only [dj];go_wp2_with fail;go_ret2;rw [HW.out];exact ⟨rfl,HS3.out,HC3.out⟩
  ·have hx0:¬ x=0:=hnz x (mG _ _ _) rfl;have hx1:(x == 0)=false:=by simpa using hx0
   have HW:=hid (HRW.out.trans (show (oB at_ (some n)).run s1=(s3,.err x) from ak hx));simp only [dj];go_wp2_with fail;go_ret2;rw [HW.out];exact ⟨rfl,HS3.out,HC3.out⟩
 ·obtain ⟨v,dd,rfl,m,B1,l1,e1,B2,l2,e2,B3,l3,e3,rfl⟩:=hp;have HW:=hid (HRT.out.trans (ak HX.out));have hx0:¬ x=0:=hnz x (fD (j8 k vl) k 19 at_) rfl;have hx1:(x == 0)=false:=by simpa using hx0
  have HS2:=hid (HS1.out.ch (S:=fun _=>False) (Ch.alloc (Ch.refl _ w1) (ap m (.slice B1 l1 e1) (.slice B2 l2 e2) (.slice B3 l3 e3))) id id);have HC2:=hid (Ch.alloc HC1.out (ap m (.slice B1 l1 e1) (.slice B2 l2 e2) (.slice B3 l3 e3)));cases dd
  ·go_wp2_with fail;go_ret2;rw [HW.out];exact ⟨rfl,HS2.out,HC2.out⟩
  ·go_wp2_with fail;go_ret2;rw [HW.out];exact ⟨rfl,HS2.out,HC2.out⟩
theorem sx (root:Int) (k:By) (gs gm:Nat) (s:Sf) (w:World) (hS:ShIs w gs gm s):
  Calls Tryz.prog 27 #[bV gs,.int .i64 root,.string (al k)] w fun e w'=>tH e ((kx root k).run s).2∧ShIs w' gs gm ((kx root k).run s).1∧Ch (fun k=>k=gs∨k=gm) w w':=by
 have hmf:∀ (fn:Fn) (first cap:Array Value) (w:World),(Instr.makeFunc fn first cap).run Tryz.prog w=.ok (.func fn first cap) w:=fun _ _ _ _=>rfl
 have hgs:=aj hS.blk;have hgm:=hS.book.lt;have HB:=hid (show Below w.heap.size w ((w.alloc (.cells #[bV gs] 107)).alloc (.cells #[.string (al k)] 9)) from ((Below.refl _ w).alloc (Nat.le_refl _) _).alloc (by simp) _);have HP:=hid (show ((w.alloc (.cells #[bV gs] 107)).alloc (.cells #[.string (al k)] 9)).heap[w.heap.size]?=some (.cells #[bV gs] 107 (0,0)) from ai (ag rfl) _);have HK:=hid (show ((w.alloc (.cells #[bV gs] 107)).alloc (.cells #[.string (al k)] 9)).heap[w.heap.size+1]?=some (.cells #[.string (al k)] 9 (0,0)) from ag (by simp));have hsz:((w.alloc (.cells #[bV gs] 107)).alloc (.cells #[.string (al k)] 9)).heap.size=w.heap.size+2:=by simp
 have HS:=hid hS;clear hS;unfold bV at HB HP HK hsz ⊢;go_enter Tryz.func27,Tryz.ntmps27;go_upto_region 1 with fail
 generalize (w.alloc (.cells #[.iface 24 (.pointer (some ⟨gs,0,none⟩))] 107)).alloc (.cells #[.string (al k)] 9)=w1 at *;have HS1:=hid (HS.out.ch (S:=fun _=>False) (Ch.of_below HB.out) id id);have HAL:=hid (mq k (w.heap.size+1) w.heap.size gs gm root s w1 HS1.out ⟨HK.out,HP.out,by omega,by omega,by omega,by omega,by omega,by omega⟩);unfold bV at HAL;have a0:=ac HP.out 0;have a1:=aj HP.out;have b0:=ac HK.out 0;have b1:=aj HK.out;go_wp2_with fail;refine HAL.out.mono ?_;rintro e w2 ⟨hp,hs,hc⟩;have HS2:=hid hs;have HC2:=hid ((Ch.of_below (S:=fun k=>k=gs∨k=gm) HB.out).trans hc);clear hs hc a0 a1 b0 b1 HAL;have HW:=hid (show (kx root k).run s=(ca (aQ k) root k).run s from rfl);obtain ⟨⟨s1,a⟩,hx⟩:∃ x,(ca (aQ k) root k).run s=x:=⟨_,rfl⟩;rw [hx] at HS2 hp HW;rcases a with b | x
 ·obtain rfl:=hp;go_wp2_with fail;go_ret2;rw [HW.out];exact ⟨rfl,HS2.out,HC2.out⟩
 ·obtain rfl:=hp;go_wp2_with fail;go_ret2;rw [HW.out];exact ⟨rfl,HS2.out,HC2.out⟩
theorem oP (root:Int) (k vl:By) (gs gm:Nat) (s:Sf) (w:World) (hS:ShIs w gs gm s):
  Calls Tryz.prog 25 #[bV gs,.int .i64 root,.string (al k),.string (al vl)] w fun e w'=>e=.returned (dj ((cP root k vl).run s).2)∧ShIs w' gs gm ((cP root k vl).run s).1∧Ch (fun k=>k=gs∨k=gm) w w':=by
 have hmf:∀ (fn:Fn) (first cap:Array Value) (w:World),(Instr.makeFunc fn first cap).run Tryz.prog w=.ok (.func fn first cap) w:=fun _ _ _ _=>rfl
 have hgs:=aj hS.blk;have hgm:=hS.book.lt;have hkz:=aq k;have hvz:=aq vl;have HB:=hid (show Below w.heap.size w (((w.alloc (.cells #[bV gs] 107)).alloc (.cells #[.string (al k)] 9)).alloc (.cells #[.string (al vl)] 9)) from (((Below.refl _ w).alloc (Nat.le_refl _) _).alloc (by simp) _).alloc (by simp;omega) _);have HP:=hid (show (((w.alloc (.cells #[bV gs] 107)).alloc (.cells #[.string (al k)] 9)).alloc (.cells #[.string (al vl)] 9)).heap[w.heap.size]?=some (.cells #[bV gs] 107 (0,0)) from ai (ai (ag rfl) _) _);have HK:=hid (show (((w.alloc (.cells #[bV gs] 107)).alloc (.cells #[.string (al k)] 9)).alloc (.cells #[.string (al vl)] 9)).heap[w.heap.size+1]?=some (.cells #[.string (al k)] 9 (0,0)) from ai (ag (by simp)) _);have HV:=hid (show (((w.alloc (.cells #[bV gs] 107)).alloc (.cells #[.string (al k)] 9)).alloc (.cells #[.string (al vl)] 9)).heap[w.heap.size+1+1]?=some (.cells #[.string (al vl)] 9 (0,0)) from ag (by simp));have hsz:(((w.alloc (.cells #[bV gs] 107)).alloc (.cells #[.string (al k)] 9)).alloc (.cells #[.string (al vl)] 9)).heap.size=w.heap.size+3:=by simp
 have HS:=hid hS;clear hS;unfold bV at HB HP HK HV hsz ⊢;go_enter Tryz.func25,Tryz.ntmps25;go_upto_region 1 with fail
 generalize ((w.alloc (.cells #[.iface 24 (.pointer (some ⟨gs,0,none⟩))] 107)).alloc (.cells #[.string (al k)] 9)).alloc (.cells #[.string (al vl)] 9)=w1 at *;have HS1:=hid (HS.out.ch (S:=fun _=>False) (Ch.of_below HB.out) id id);have HC1:=hid (Ch.of_below (S:=fun k=>k=gs∨k=gm) HB.out);have a0:=ac HP.out 0;have a1:=aj HP.out;have b0:=ac HK.out 0;have b1:=aj HK.out;have c0:=ac HV.out 0;have c1:=aj HV.out;by_cases hk:64<k.length
 ·have HW:=hid (show (cP root k vl).run s=(s,.err 1) by unfold cP;rw [if_pos hk];rfl);have hk1:(64:Int)<((al k).size:Int):=by rw [hkz];omega
  go_wp2_with fail;go_ret;rw [HW.out];exact ⟨rfl,HS1.out,HC1.out⟩
 ·have hk1:¬ ((64:Int)<((al k).size:Int)):=by rw [hkz];omega
  by_cases hv:5000<vl.length
  ·have HW:=hid (show (cP root k vl).run s=(s,.err 47) by unfold cP;rw [if_neg hk,if_pos hv];rfl);have hv1:(5000:Int)<((al vl).size:Int):=by rw [hvz];omega
   go_wp2_with fail;go_ret;rw [HW.out];exact ⟨rfl,HS1.out,HC1.out⟩
  ·have hv1:¬ ((5000:Int)<((al vl).size:Int)):=by rw [hvz];omega
   have HW:=hid (show (cP root k vl).run s=((ca (aH k vl) root k).bind fun _=>.pure ()).run s by unfold cP;rw [if_neg hk,if_neg hv]);have HAL:=hid (mp k vl (w.heap.size+1) w.heap.size (w.heap.size+1+1) gs gm (by omega) (by omega) root s w1 HS1.out ⟨⟨HK.out,HP.out,by omega,by omega,by omega,by omega,by omega,by omega⟩,HV.out,by omega,by omega,by omega⟩);unfold bV at HAL;clear hk hv;go_wp2_with fail;refine HAL.out.mono ?_;rintro e w2 ⟨hp,hs,hc⟩;have HS2:=hid hs;have HC2:=hid (HC1.out.trans hc);clear hs hc a0 a1 b0 b1 c0 c1 HAL;obtain ⟨⟨s1,a⟩,hx⟩:∃ x,(ca (aH k vl) root k).run s=x:=⟨_,rfl⟩;rw [hx] at HS2 hp;rcases a with b | x
   ·obtain rfl:=hp;have HV2:=hid (HW.out.trans (af hx));go_wp2_with fail;go_ret;rw [HV2.out];exact ⟨rfl,HS2.out,HC2.out⟩
   ·obtain rfl:=hp;have HV2:=hid (HW.out.trans (ak hx));go_wp2_with fail;go_ret;rw [HV2.out];exact ⟨rfl,HS2.out,HC2.out⟩
end Go.Proofs.YtknioodagnjchaaGreatDoor
