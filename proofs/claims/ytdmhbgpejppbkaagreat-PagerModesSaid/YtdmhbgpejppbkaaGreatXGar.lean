/- journal: lay, Note, Has, End. -/
import Derived.Test.YtdmhbgpejppbkaaGreatXGaq
import Derived.StillTailTactics
set_option maxRecDepth 100000
set_option maxHeartbeats 2000000
namespace Go.Proofs.YtdmhbgpejppbkaaGreat
open Go.Lib (hid)
open Go.RowKit Go.Maps
def DkTo (w:World) (L:DkM) (d:Dk) (w':World):Prop:=∃ L',L'.gd=L.gd∧DkIs w' L' d∧(∀ k,L'.F k→L.F k∨w.heap.size≤k)∧Ch L.F w w'
theorem DkTo.pre {w w1 w':World} {L:DkM} {d:Dk} (h:DkTo w1 L d w') (hb:Below w.heap.size w w1):DkTo w L d w':=by obtain ⟨L',h1,h2,h3,h4⟩:=h;exact ⟨L',h1,h2,fun k hk=>(h3 k hk).imp id fun e=>Nat.le_trans hb.size e,(Ch.of_below hb).trans h4⟩
theorem DkTo.post {w w1 w':World} {L:DkM} {d:Dk} (h:DkTo w L d w1) (hb:Below w1.heap.size w1 w'):DkTo w L d w':=by obtain ⟨L',h1,h2,h3,h4⟩:=h;exact ⟨L',h1,h2.ch (Ch.of_below (S:=fun _=>False) hb) (fun _ _ h=>h),h3,h4.trans (Ch.of_below hb)⟩
theorem DkTo.and {w w':World} {L L1:DkM} {d:Dk} {w1:World} (h1:L1.gd=L.gd) (hF:∀ k,L1.F k→L.F k∨w.heap.size≤k) (hc:Ch L.F w w1) (h:DkTo w1 L1 d w'):DkTo w L d w':=by
 obtain ⟨L',e1,e2,e3,e4⟩:=h;refine ⟨L',e1.trans h1,e2,fun k hk=>?_,hc.then e4 hF⟩;rcases e3 k hk with e | e
 ·exact hF k e
 ·exact .inr (Nat.le_trans hc.size e)
theorem DkTo.refl {w:World} {L:DkM} {d:Dk} (h:DkIs w L d):DkTo w L d w:=⟨L,rfl,h,fun _ hk=>.inl hk,Ch.refl _ _⟩
theorem qx (j:Jn) (k n:Nat) (b:By) (w:World) {L:DkM} {d:Dk} {gj gn:Nat} (h:DkIs w L d) (hj:JnIs w L.gd gj gn j) (hf:d.Fine) (hc:d.Can aQ (d.len aQ)) (hk:k<4294967296) (hn:n<4294967296) (hb:b.length=232):
  Calls Tryz.prog 202 #[ai gj,cN k n 0 (aj b)] w fun e w'=>e=.returned (.int .i64 0)∧DkTo w L (d.wr aQ (d.len aQ) (aI k n j.salt b)) w':=by
 have HC:=hid (fun w=>fh k n j.salt b w hk hn hj.ok.salt hb);have HS:=hid (fun (w':World) (hd:DkIs w' L d)=>(bp aQ (by decide) w' hd).mono fun e w'' (hh:e=_∧w'=w'')=>(⟨hh.1,hh.2.symm⟩:e=_∧w''=w'));have HW:=hid (fun (w':World) (hd:DkIs w' L d)=>ed aQ (by decide) (d.len aQ) (aI k n j.salt b) w' hd);rw [hf.wrE (by decide) (bw hb) hc,hf.wrS (by decide) (bw hb) hc] at HW;have HJ:=hid hj;have HH:=hid h;obtain ⟨c0,c1,c2,c3,c4,c5,cl,cf⟩:=fO hj.blk;have hmx:max (d.size aQ) 0=(d.len aQ:Int):=Dk.len_max;unfold cN ai cZ at *;generalize d.size aQ=sz at *;clear h hj hf hc hk hn hb;go_enter Tryz.func202,Tryz.ntmps202;go_wp2_with fail;refine (HC.out _).mono ?_;rintro e w2 ⟨rfl,hb2⟩;have hA:=(Below.refl w.heap.size w).alloc (Nat.le_refl _) (bq k n j.salt (aj b));have HB2:=hid (hA.trans (hb2.mono hA.size));clear hA;have HD2:=hid (HH.out.ch (Ch.of_below (S:=fun _=>False) HB2.out) (fun _ _ h=>h));obtain ⟨c0,c1,c2,c3,c4,c5,cl,cf⟩:=fO (HJ.out.ch (Ch.of_below (S:=fun _=>False) HB2.out) (fun h=>h) (fun h=>h)).blk;unfold ai at c0;have HB2d:=hid (show Below w.heap.size w w2.drew from HB2.out.drew);have HD2d:=hid (HH.out.ch (Ch.of_below (S:=fun _=>False) HB2d.out) (fun _ _ h=>h));clear hb2;go_upto_region 5 with fail
 refine wp_region_still_tail 11 (by kernel_rfl) (by kernel_rfl) ?_;simp only [List.take_succ_cons,List.take_zero,List.drop_succ_cons,List.drop_zero]
 repeat still_step
 still_call (HS.out w2.drew HD2d.out)
 repeat still_step
 refine wpStill_nil ?_;change wpList _ _ _ _ _ w2.drew;generalize w2.drew=w3 at *;go_wp2_with fail;refine (HW.out w3 HD2d.out).mono ?_;rintro e w4 ⟨rfl,hr⟩;have HR:=hid hr;clear hr;go_wp2_with fail;go_ret;exact ⟨rfl,DkTo.pre HR.out HB2d.out⟩
theorem wK (j:Jn) (n:Int) (w:World) {gd gj gn:Nat} (hj:JnIs w gd gj gn j) (hn:gE n):
  Calls Tryz.prog 199 #[ai gj,.int .i64 n] w fun e w'=>e=.returned (.bool ((aC j.noted n).getD false))∧w=w':=by
 have hl:=hj.map.look Cc (a:=n) hn;rw [show qg BS (.bool false) (aC j.noted n)=.bool ((aC j.noted n).getD false) by cases aC j.noted n <;> rfl] at hl;obtain ⟨c0,c1,c2,c3,c4,c5,cl,cf⟩:=fO hj.blk;generalize (aC j.noted n).getD false=r at *;unfold ny at hl;clear hj hn;unfold ai;go_enter Tryz.func199,Tryz.ntmps199;go_wp2_with fail;go_ret;exact ⟨rfl,rfl⟩
theorem wJ (n:Int) (w:World):
  Calls Tryz.prog 199 #[.pointer none,.int .i64 n] w fun e w'=>e=.returned (.bool false)∧w=w':=by
 go_enter Tryz.func199,Tryz.ntmps199;go_wp2_with fail;go_ret;exact ⟨rfl,rfl⟩
theorem lJ (j:Jn) (w:World) {L:DkM} {d:Dk} {gj gn:Nat} (h:DkIs w L d) (hj:JnIs w L.gd gj gn j) (hf:d.Fine):
  Calls Tryz.prog 173 #[ai gj] w fun e w'=>e=.returned (.int .i64 0)∧DkTo w L (d.del aQ) w':=by
 have HD:=hid (nr w h hf);obtain ⟨c0,c1,c2,c3,c4,c5,cl,cf⟩:=fO hj.blk;unfold ai at *;clear h hj hf;go_enter Tryz.func173,Tryz.ntmps173;go_wp2_with fail;refine HD.out.mono ?_;rintro e w1 ⟨rfl,hr⟩;have HR:=hid hr;clear hr;go_wp2_with fail;go_ret;exact ⟨rfl,HR.out⟩
end Go.Proofs.YtdmhbgpejppbkaaGreat
