/- head.Decode of what Encode gave. pager: done, Head, start, Begin. pager: wanted, change where nothing is to be kept. disk: Room, New, Off. pager: find on an empty disk, Open. pager: what is wanted of a page, plain; savepoints searched. -/
import Derived.Test.YtdmhbgpejppbkaaGreatXGaq
import Derived.Test.YtdmhbgpejppbkaaGreatXGay
import Derived.Test.YtdmhbgpejppbkaaGreatXGao
import Derived.Deep.RegionWith
set_option maxRecDepth 100000
set_option maxHeartbeats 4000000
namespace Go.Proofs.YtdmhbgpejppbkaaGreat
open Go.Lib (hid)
open Go.RowKit
def ot (l:List UInt8):Obj:=.cells #[.string (aj l)] 9 (0,0)
theorem et (k:Nat) (a b:List UInt8) (g:Nat) (w:World) (hg:w.heap[g]?=some (ot (a ++ b))) (ha:a.length=k) (h1:1≤k) (h8:k≤8) (hb:b.length≤1000):
  Calls Tryz.prog 155 #[.int .i64 k,.pointer (some ⟨g,0,none⟩)] w fun e w'=>e=.returned (.int .u64 (eE a))∧w'.heap[g]?=some (ot b)∧Ch (fun j=>j=g) w w':=by
 have c0:=aa hg 0;have hlt:=ab hg;simp only [List.getElem?_toArray,List.getElem?_cons_zero] at c0;have hsz:(aj (a ++ b)).size=k+b.length:=by rw [aw,List.length_append,ha]
 have x1:(aj (a ++ b)).extract 0 k=aj a:=by rw [cV,aR];exact congrArg aj (by rw [← ha];simp)
 have x2:(aj (a ++ b)).extract k (aj (a ++ b)).size=aj b:=by rw [hsz,cV,aR];exact congrArg aj (by rw [← ha];simp)
 have HU:=hid (fun w'=>show Calls Tryz.prog 156 #[.string (aj a)] w' fun e w''=>e=.returned (.tuple #[.int .u64 (eE a),.int .i64 0])∧Below w'.heap.size w' w'' by
  have:=eF (aj a) w' (by rw [aw];omega) (by rw [aw];omega);rw [aR] at this;exact this)
 have HG0:=hid (show w.heap[g]?=some (.cells #[.string (aj (a ++ b))] 9 (0,0)) from hg);have hk1:(k:Int)≤((aj (a ++ b)).size:Int):=by omega
 have hk0:(0:Int)≤(k:Int):=by omega
 generalize aj (a ++ b)=s at *;clear hg ha h1 h8 hb hsz;go_enter Tryz.func155,Tryz.ntmps155;go_wp2_with fail;refine (HU.out w).mono ?_;rintro e w1 ⟨rfl,hb1⟩;have hg1:w1.heap[g]?=some (.cells #[.string s] 9 (0,0)):=aB HG0.out hb1;have c0:=aa hg1 0;have hlt:=ab hg1;have z0:=ah hg1 0;simp only [List.getElem?_toArray,List.getElem?_cons_zero] at c0
 have HF:=hid (show (w1.setCell ⟨g,0,none⟩ (.string (aj b))).heap[g]?=some (ot b)∧Ch (fun j=>j=g) w (w1.setCell ⟨g,0,none⟩ (.string (aj b))) from
  ⟨ae hg1 0 (.string (aj b)),(Ch.of_below (S:=fun j=>j=g) hb1).setCell (p:=⟨g,0,none⟩) rfl _⟩)
 have HX:=hid hb1;clear hg1 hb1;go_wp2_with fail;go_ret;exact ⟨rfl,HF.out⟩
theorem yS (g:Nat) (w:World):(Instr.index 188 (.agg #[.pointer (some ⟨g,0,none⟩),.pointer (some ⟨g,1,none⟩),.pointer (some ⟨g,2,none⟩),.pointer (some ⟨g,3,none⟩),.pointer (some ⟨g,4,none⟩)]) (.int .i64 0)).run Tryz.prog w=.ok (.pointer (some ⟨g,0,none⟩)) w:=by kernel_rfl
theorem yR (g:Nat) (w:World):(Instr.index 188 (.agg #[.pointer (some ⟨g,0,none⟩),.pointer (some ⟨g,1,none⟩),.pointer (some ⟨g,2,none⟩),.pointer (some ⟨g,3,none⟩),.pointer (some ⟨g,4,none⟩)]) (.int .i64 1)).run Tryz.prog w=.ok (.pointer (some ⟨g,1,none⟩)) w:=by kernel_rfl
theorem yQ (g:Nat) (w:World):(Instr.index 188 (.agg #[.pointer (some ⟨g,0,none⟩),.pointer (some ⟨g,1,none⟩),.pointer (some ⟨g,2,none⟩),.pointer (some ⟨g,3,none⟩),.pointer (some ⟨g,4,none⟩)]) (.int .i64 2)).run Tryz.prog w=.ok (.pointer (some ⟨g,2,none⟩)) w:=by kernel_rfl
theorem yP (g:Nat) (w:World):(Instr.index 188 (.agg #[.pointer (some ⟨g,0,none⟩),.pointer (some ⟨g,1,none⟩),.pointer (some ⟨g,2,none⟩),.pointer (some ⟨g,3,none⟩),.pointer (some ⟨g,4,none⟩)]) (.int .i64 3)).run Tryz.prog w=.ok (.pointer (some ⟨g,3,none⟩)) w:=by kernel_rfl
theorem yO (g:Nat) (w:World):(Instr.index 188 (.agg #[.pointer (some ⟨g,0,none⟩),.pointer (some ⟨g,1,none⟩),.pointer (some ⟨g,2,none⟩),.pointer (some ⟨g,3,none⟩),.pointer (some ⟨g,4,none⟩)]) (.int .i64 4)).run Tryz.prog w=.ok (.pointer (some ⟨g,4,none⟩)) w:=by kernel_rfl
theorem tO {n:Nat} (h:n≤4096):eE (aG 4 n)=n:=by
 have h1:(256:Nat) ^ 4=4294967296:=by decide
 exact eP 4 _ (by omega)
theorem BU {n:Nat} (h:n<18446744073709551616):eE (aG 8 n)=n:=by
 have h1:(256:Nat) ^ 8=18446744073709551616:=by decide
 exact eP 8 _ (by omega)
def jM:Obj:=.cells #[.int .i64 0,.int .i64 0,.int .i64 0,.int .i64 0,.int .i64 0,.int .u64 0] 38 (0,0)
theorem Ag:jM=dP ⟨0,0,0,0,0,0⟩:=rfl
theorem kA {n:Nat} (h:n≤1000000):IntKind.i64.wrap (n:Int)=(n:Int):=IntWalk.i64_in _ (by omega)
theorem wO (h:He) (w:World) (hg:h.Good):Calls Tryz.prog 104 #[.string (aj (bh h))] w fun e w'=>e=.returned (.tuple #[fJ h,.int .i64 0])∧Below w.heap.size w w':=by
 have HEN:=hid (fun w=>iU h w hg);have hsz:(aj (bh h)).size=232:=by rw [aw,eW]
 obtain ⟨T6,hT6⟩:∃ T,T=List.replicate 196 (0:UInt8):=⟨_,rfl⟩;obtain ⟨T5,hT5⟩:∃ T,T=aG 8 h.change ++ T6:=⟨_,rfl⟩;obtain ⟨T4,hT4⟩:∃ T,T=aG 4 h.root ++ T5:=⟨_,rfl⟩;obtain ⟨T3,hT3⟩:∃ T,T=aG 4 h.spare ++ T4:=⟨_,rfl⟩;obtain ⟨T2,hT2⟩:∃ T,T=aG 4 h.trunk ++ T3:=⟨_,rfl⟩;obtain ⟨T1,hT1⟩:∃ T,T=aG 4 h.pages ++ T2:=⟨_,rfl⟩;obtain ⟨T0,hT0⟩:∃ T,T=aG 4 h.mode ++ T1:=⟨_,rfl⟩;have l6:T6.length=196:=by rw [hT6,List.length_replicate]
 have l5:T5.length=204:=by rw [hT5,List.length_append,aq,l6]
 have l4:T4.length=208:=by rw [hT4,List.length_append,aq,l5]
 have l3:T3.length=212:=by rw [hT3,List.length_append,aq,l4]
 have l2:T2.length=216:=by rw [hT2,List.length_append,aq,l3]
 have l1:T1.length=220:=by rw [hT1,List.length_append,aq,l2]
 have l0:T0.length=224:=by rw [hT0,List.length_append,aq,l1]
 have hx8:(aj (bh h)).extract 8 232=aj T0:=by
  rw [cV,aR];refine congrArg aj ?_;have:bh h=wj ++ T0:=by rw [hT0,hT1,hT2,hT3,hT4,hT5,hT6];unfold bh;simp only [List.append_assoc]
  rw [this,List.drop_append_of_le_length (by decide),List.drop_eq_nil_of_le (by decide),List.nil_append,List.take_of_length_le (by omega)]
 have HT0:=hid (And.intro hT0 l1);have HT1:=hid (And.intro hT1 l2);have HT2:=hid (And.intro hT2 l3);have HT3:=hid (And.intro hT3 l4);have HT4:=hid (And.intro hT4 l5);have HT5:=hid (And.intro hT5 l6);clear hT0 hT1 hT2 hT3 hT4 hT5 hT6 l0 l1 l2 l3 l4 l5 l6;obtain ⟨g1,g2,g3,g4,g5,g6,g7⟩:=hg;obtain ⟨m,p,t,s,r,c⟩:=h;simp only at *;generalize bh ⟨m,p,t,s,r,c⟩=L at *;generalize aj L=z at *;unfold fJ lN at HEN ⊢;simp only at HEN ⊢;go_enter Tryz.func104,Tryz.ntmps104;go_wp2_with fail;have hA:=(((Below.refl w.heap.size w).alloc (Nat.le_refl _) jM).alloc (by simp) (ot T0)).alloc (by simp;omega) jM;have HR0:=hid (ar (ar (af (w0:=w) (o:=jM) rfl) (ot T0)) jM);have HE0:=hid (ar (af (w0:=w.alloc jM) (g:=w.heap.size+1) (o:=ot T0) (by simp)) jM);have HH0:=hid (af (w0:=(w.alloc jM).alloc (ot T0)) (g:=w.heap.size+1+1) (o:=jM) (by simp));have HB0:=hid hA;clear hA;have hw0:∃ w0,((w.alloc jM).alloc (ot T0)).alloc jM=w0:=⟨_,rfl⟩;obtain ⟨w0,hw0⟩:=hw0;rw [hw0] at HR0 HE0 HH0 HB0;unfold jM ot at hw0;rw [hw0];obtain ⟨gr,hgr⟩:∃ g,g=w.heap.size:=⟨_,rfl⟩;obtain ⟨ge,hge⟩:∃ g,g=w.heap.size+1:=⟨_,rfl⟩;obtain ⟨gh,hgh⟩:∃ g,g=w.heap.size+1+1:=⟨_,rfl⟩;have n1:gr≠ge:=by omega
 have n2:gh≠ge:=by omega
 have n3:gr≠gh:=by omega
 have n4:gr≤ge:=by omega
 have n5:gr≤gh:=by omega
 rw [← hgh,← hge,← hgr];rw [← hgh] at HH0;rw [← hge] at HE0;rw [← hgr] at HR0 HB0;rw [Ag] at HH0;have HGR:=hid hgr;clear hgh hge hw0 hgr;have i0:=yS gh;have i1:=yR gh;have i2:=yQ gh;have i3:=yP gh;have i4:=yO gh;have u1:=kA (n:=m) (by omega);have u2:=kA (n:=p) (by omega);have u3:=kA (n:=t) (by omega);have u4:=kA (n:=s) (by omega);have u5:=kA (n:=r) (by omega);refine wp_loop_rounds 6 ?_;rw [rounds_succ];go_wp2_with fail;refine (et 4 (aG 4 m) T1 ge w0 (by rw [← HT0.out.1];exact HE0.out) (aq _ _) (by decide) (by decide) (by have:=HT0.out.2;omega)).mono ?_;rw [tO (by omega)];rintro e w1 ⟨rfl,he,hc⟩;have hr:=hc.keep HR0.out n1;have hh:=hc.keep HH0.out n2;have hb:=HB0.out.trans (hc.below (B:=gr) (by have:=HB0.out.size;have:=HGR.out;omega) (fun k e=>e ▸ n4));have hgl:=ab hh;have hgz:=ah hh 0;obtain ⟨x0,x1,x2,x3,x4,x5,-⟩:=du hh;simp only at x0 x1 x2 x3 x4 x5;have hc2:Ch (fun j=>j=gh) w1 (w1.setCell ⟨gh,0,none⟩ (.int .i64 m)):=(Ch.refl (fun j=>j=gh) w1).setCell (p:=⟨gh,0,none⟩) rfl _;have HH1:=hid (show (w1.setCell ⟨gh,0,none⟩ (.int .i64 m)).heap[gh]?=some (dP ⟨m,0,0,0,0,0⟩) from ae hh 0 (.int .i64 m));have HE1:=hid (hc2.keep he (Ne.symm n2));have HR1:=hid (hc2.keep hr n3);have HB1:=hid (hb.trans (hc2.below (B:=gr) (by have:=hb.size;have:=HGR.out;omega) (fun k e=>e ▸ n5)));clear he hc hr hh hc2 hb;go_wp2_with fail;generalize w1.setCell ⟨gh,0,none⟩ (.int .i64 m)=w1 at *;clear hgl hgz x0 x1 x2 x3 x4 x5;rw [rounds_succ];go_wp2_with fail;refine (et 4 (aG 4 p) T2 ge w1 (by rw [← HT1.out.1];exact HE1.out) (aq _ _) (by decide) (by decide) (by have:=HT1.out.2;omega)).mono ?_;rw [tO (by omega)];rintro e w2 ⟨rfl,he,hc⟩;have hr:=hc.keep HR1.out n1;have hh:=hc.keep HH1.out n2;have hb:=HB1.out.trans (hc.below (B:=gr) (by have:=HB1.out.size;have:=HGR.out;omega) (fun k e=>e ▸ n4));have hgl:=ab hh;have hgz:=ah hh 1;obtain ⟨x0,x1,x2,x3,x4,x5,-⟩:=du hh;simp only at x0 x1 x2 x3 x4 x5;have hc2:Ch (fun j=>j=gh) w2 (w2.setCell ⟨gh,1,none⟩ (.int .i64 p)):=(Ch.refl (fun j=>j=gh) w2).setCell (p:=⟨gh,1,none⟩) rfl _;have HH2:=hid (show (w2.setCell ⟨gh,1,none⟩ (.int .i64 p)).heap[gh]?=some (dP ⟨m,p,0,0,0,0⟩) from ae hh 1 (.int .i64 p));have HE2:=hid (hc2.keep he (Ne.symm n2));have HR2:=hid (hc2.keep hr n3);have HB2:=hid (hb.trans (hc2.below (B:=gr) (by have:=hb.size;have:=HGR.out;omega) (fun k e=>e ▸ n5)));clear he hc hr hh hc2 hb;go_wp2_with fail;generalize w2.setCell ⟨gh,1,none⟩ (.int .i64 p)=w2 at *;clear hgl hgz x0 x1 x2 x3 x4 x5;rw [rounds_succ];go_wp2_with fail;refine (et 4 (aG 4 t) T3 ge w2 (by rw [← HT2.out.1];exact HE2.out) (aq _ _) (by decide) (by decide) (by have:=HT2.out.2;omega)).mono ?_;rw [tO (by omega)];rintro e w3 ⟨rfl,he,hc⟩;have hr:=hc.keep HR2.out n1;have hh:=hc.keep HH2.out n2;have hb:=HB2.out.trans (hc.below (B:=gr) (by have:=HB2.out.size;have:=HGR.out;omega) (fun k e=>e ▸ n4));have hgl:=ab hh;have hgz:=ah hh 2;obtain ⟨x0,x1,x2,x3,x4,x5,-⟩:=du hh;simp only at x0 x1 x2 x3 x4 x5;have hc2:Ch (fun j=>j=gh) w3 (w3.setCell ⟨gh,2,none⟩ (.int .i64 t)):=(Ch.refl (fun j=>j=gh) w3).setCell (p:=⟨gh,2,none⟩) rfl _;have HH3:=hid (show (w3.setCell ⟨gh,2,none⟩ (.int .i64 t)).heap[gh]?=some (dP ⟨m,p,t,0,0,0⟩) from ae hh 2 (.int .i64 t));have HE3:=hid (hc2.keep he (Ne.symm n2));have HR3:=hid (hc2.keep hr n3);have HB3:=hid (hb.trans (hc2.below (B:=gr) (by have:=hb.size;have:=HGR.out;omega) (fun k e=>e ▸ n5)));clear he hc hr hh hc2 hb;go_wp2_with fail;generalize w3.setCell ⟨gh,2,none⟩ (.int .i64 t)=w3 at *;clear hgl hgz x0 x1 x2 x3 x4 x5;rw [rounds_succ];go_wp2_with fail;refine (et 4 (aG 4 s) T4 ge w3 (by rw [← HT3.out.1];exact HE3.out) (aq _ _) (by decide) (by decide) (by have:=HT3.out.2;omega)).mono ?_;rw [tO (by omega)];rintro e w4 ⟨rfl,he,hc⟩;have hr:=hc.keep HR3.out n1;have hh:=hc.keep HH3.out n2;have hb:=HB3.out.trans (hc.below (B:=gr) (by have:=HB3.out.size;have:=HGR.out;omega) (fun k e=>e ▸ n4));have hgl:=ab hh;have hgz:=ah hh 3;obtain ⟨x0,x1,x2,x3,x4,x5,-⟩:=du hh;simp only at x0 x1 x2 x3 x4 x5;have hc2:Ch (fun j=>j=gh) w4 (w4.setCell ⟨gh,3,none⟩ (.int .i64 s)):=(Ch.refl (fun j=>j=gh) w4).setCell (p:=⟨gh,3,none⟩) rfl _;have HH4:=hid (show (w4.setCell ⟨gh,3,none⟩ (.int .i64 s)).heap[gh]?=some (dP ⟨m,p,t,s,0,0⟩) from ae hh 3 (.int .i64 s));have HE4:=hid (hc2.keep he (Ne.symm n2));have HR4:=hid (hc2.keep hr n3);have HB4:=hid (hb.trans (hc2.below (B:=gr) (by have:=hb.size;have:=HGR.out;omega) (fun k e=>e ▸ n5)));clear he hc hr hh hc2 hb;go_wp2_with fail;generalize w4.setCell ⟨gh,3,none⟩ (.int .i64 s)=w4 at *;clear hgl hgz x0 x1 x2 x3 x4 x5;rw [rounds_succ];go_wp2_with fail;refine (et 4 (aG 4 r) T5 ge w4 (by rw [← HT4.out.1];exact HE4.out) (aq _ _) (by decide) (by decide) (by have:=HT4.out.2;omega)).mono ?_;rw [tO (by omega)];rintro e w5 ⟨rfl,he,hc⟩;have hr:=hc.keep HR4.out n1;have hh:=hc.keep HH4.out n2;have hb:=HB4.out.trans (hc.below (B:=gr) (by have:=HB4.out.size;have:=HGR.out;omega) (fun k e=>e ▸ n4));have hgl:=ab hh;have hgz:=ah hh 4;obtain ⟨x0,x1,x2,x3,x4,x5,-⟩:=du hh;simp only at x0 x1 x2 x3 x4 x5;have hc2:Ch (fun j=>j=gh) w5 (w5.setCell ⟨gh,4,none⟩ (.int .i64 r)):=(Ch.refl (fun j=>j=gh) w5).setCell (p:=⟨gh,4,none⟩) rfl _;have HH5:=hid (show (w5.setCell ⟨gh,4,none⟩ (.int .i64 r)).heap[gh]?=some (dP ⟨m,p,t,s,r,0⟩) from ae hh 4 (.int .i64 r));have HE5:=hid (hc2.keep he (Ne.symm n2));have HR5:=hid (hc2.keep hr n3);have HB5:=hid (hb.trans (hc2.below (B:=gr) (by have:=hb.size;have:=HGR.out;omega) (fun k e=>e ▸ n5)));clear he hc hr hh hc2 hb;go_wp2_with fail;generalize w5.setCell ⟨gh,4,none⟩ (.int .i64 r)=w5 at *;clear hgl hgz x0 x1 x2 x3 x4 x5;rw [rounds_succ];go_wp2_with fail;refine (et 8 (aG 8 c) T6 ge w5 (by rw [← HT5.out.1];exact HE5.out) (aq _ _) (by decide) (by decide) (by have:=HT5.out.2;omega)).mono ?_;rw [BU (by omega)];clear i0 i1 i2 i3 i4 u1 u2 u3 u4 u5 g1 g2 g3 g4 g5 g6 g7 hx8;rintro e w6 ⟨rfl,he,hc⟩;have hr:=hc.keep HR5.out n1;have hh:=hc.keep HH5.out n2;have hb:=HB5.out.trans (hc.below (B:=gr) (by have:=HB5.out.size;have:=HGR.out;omega) (fun k e=>e ▸ n4));have hgl:=ab hh;have hgz:=ah hh 5;obtain ⟨x0,x1,x2,x3,x4,x5,-⟩:=du hh;simp only at x0 x1 x2 x3 x4 x5;have hc2:Ch (fun j=>j=gh) w6 (w6.setCell ⟨gh,5,none⟩ (.int .u64 c)):=(Ch.refl (fun j=>j=gh) w6).setCell (p:=⟨gh,5,none⟩) rfl _;have HH6:=hid (show (w6.setCell ⟨gh,5,none⟩ (.int .u64 c)).heap[gh]?=some (dP ⟨m,p,t,s,r,c⟩) from ae hh 5 (.int .u64 c));have HR6:=hid (hc2.keep hr n3);have HB6:=hid (hb.trans (hc2.below (B:=gr) (by have:=hb.size;have:=HGR.out;omega) (fun k e=>e ▸ n5)));clear he hc hr hh hc2 hb;go_upto_region 12 with fail
 generalize w6.setCell ⟨gh,5,none⟩ (.int .u64 c)=w6 at *;clear hgl hgz x0 x1 x2 x3 x4 x5;obtain ⟨c0,c1,c2,c3,c4,c5,cl⟩:=du HH6.out;simp only at c0 c1 c2 c3 c4 c5;go_wp2_with fail;refine (HEN.out w6).mono ?_;rintro e w7 ⟨rfl,hb7⟩;have HH7:=hid (aB HH6.out hb7);have HR7:=aB HR6.out hb7;have HB7:=HB6.out.trans (hb7.mono (by have:=HB6.out.size;have:=HGR.out;omega));have hzz:(z.toList != z.toList)=false:=by simp
 have HR7':=hid HR7;have HB7':=hid HB7;clear c0 c1 c2 c3 c4 c5 cl hb7 HR7 HB7 hsz n1 n2 n3 n4 n5;go_upto_region 15 with fail
 have HR7:=HR7'.out;have HB7:=HB7'.out;clear hzz;obtain ⟨c0,c1,c2,c3,c4,c5,cl⟩:=du HH7.out;simp only at c0 c1 c2 c3 c4 c5;have r1:=ab HR7;have r2:=ah HR7;have r20:=r2 0;have r21:=r2 1;have r22:=r2 2;have r23:=r2 3;have r24:=r2 4;have r25:=r2 5;have y0:=aa HR7 0;have y1:=aa HR7 1;have y2:=aa HR7 2;have y3:=aa HR7 3;have y4:=aa HR7 4;have y5:=aa HR7 5;simp only [List.getElem?_toArray,List.getElem?_cons_succ,List.getElem?_cons_zero] at y0 y1 y2 y3 y4 y5;obtain ⟨w8,hw8⟩:∃ w8,w8=(((((w7.setCell ⟨gr,0,none⟩ (.int .i64 m)).setCell ⟨gr,1,none⟩ (.int .i64 p)).setCell ⟨gr,2,none⟩ (.int .i64 t)).setCell ⟨gr,3,none⟩ (.int .i64 s)).setCell ⟨gr,4,none⟩ (.int .i64 r)).setCell ⟨gr,5,none⟩ (.int .u64 c):=⟨_,rfl⟩;have hg8:w8.heap[gr]?=some (dP ⟨m,p,t,s,r,c⟩):=by rw [hw8];exact ae (ae (ae (ae (ae (ae HR7 0 (.int .i64 m)) 1 (.int .i64 p)) 2 (.int .i64 t)) 3 (.int .i64 s)) 4 (.int .i64 r)) 5 (.int .u64 c)
 have HB8:=hid (show Below gr w w8 by
  rw [hw8];exact (((((HB7.setCell (p:=⟨gr,0,none⟩) (Nat.le_refl _) _).setCell (p:=⟨gr,1,none⟩) (Nat.le_refl _) _).setCell (p:=⟨gr,2,none⟩) (Nat.le_refl _) _).setCell (p:=⟨gr,3,none⟩) (Nat.le_refl _) _).setCell (p:=⟨gr,4,none⟩) (Nat.le_refl _) _).setCell (p:=⟨gr,5,none⟩) (Nat.le_refl _) _)
 have HW8:=hid hw8;have HG8:=hid hg8;clear hw8 hg8 HB7 HR7 r2;go_wp2_with fail;rw [← HW8.out];obtain ⟨q0,q1,q2,q3,q4,q5,ql⟩:=du HG8.out;simp only at q0 q1 q2 q3 q4 q5;exact bodyPost_ret (v:=.tuple #[.agg #[.int .i64 m,.int .i64 p,.int .i64 t,.int .i64 s,.int .i64 r,.int .u64 c],.int .i64 0]) (by simp [results,Tryz.results104,go_sem,q0,q1,q2,q3,q4,q5]) rfl ⟨rfl,by rw [← HGR.out];exact HB8.out⟩
end Go.Proofs.YtdmhbgpejppbkaaGreat
namespace Go.Proofs.YtdmhbgpejppbkaaGreat
open Go.Lib (hid)
open Go.RowKit Go.Maps
theorem dB (w:World) {L:PgL} {P:Pgr} (h:PgIs w L P):
  Calls Tryz.prog 92 #[ai L.gp,.int .i64 0] w fun e w'=>e=.returned (.int .i64 0)∧PTo w L { P with wrote:=true } w':=by
 have hC:=ag h.blk;have hl:=hC.lt;have c14:=hC.c14;have z14:=hC.fz 14
 have HF:=hid (show PTo w L { P with wrote:=true } (w.setCell ⟨L.gp,14,none⟩ (.bool true)) from
  h.cell 14 (.bool true) (ae h.blk 14 (.bool true)) rfl rfl rfl rfl rfl ⟨h.ok.s1,h.ok.s2,h.ok.base,h.ok.hp,h.ok.wp,h.ok.nos⟩)
 unfold ai;clear h hC;go_enter Tryz.func92,Tryz.ntmps92;go_wp2_with fail;go_ret;exact ⟨rfl,HF.out⟩
theorem rD (c:Int) (hc:c≠0) (w:World) (gp:Nat):
  Calls Tryz.prog 92 #[ai gp,.int .i64 c] w fun e w'=>e=.returned (.int .i64 c)∧w=w':=by
 have h0:(c == 0)=false:=by simpa using hc
 unfold ai;clear hc;go_enter Tryz.func92,Tryz.ntmps92;go_wp2_with fail;go_ret;exact ⟨rfl,rfl⟩
def Pgr.now (P:Pgr):He:=if P.busy then P.work else P.head
theorem mT (w:World) {L:PgL} {P:Pgr} (h:PgIs w L P):
  Calls Tryz.prog 13 #[ai L.gp] w fun e w'=>e=.returned (fJ P.now)∧Below w.heap.size w w':=by
 have hA:Below w.heap.size w (w.alloc jM):=(Below.refl _ w).alloc (Nat.le_refl _) _;have HA:=hid hA;have HNW:=hid (kO _ (h.below hA));have HX:=hid (af (w0:=w) (g:=w.heap.size) (o:=jM) rfl);have HE:=hid (show fJ (if P.busy then P.work else P.head)=fJ P.now from rfl);rw [HE.out] at HNW;generalize P.now=H at *;unfold ai jM fJ lN at *;clear h hA;go_enter Tryz.func13,Tryz.ntmps13;go_wp2_with fail;refine HNW.out.mono ?_;rintro e w1 ⟨rfl,hb⟩;have hX:=aB HX.out hb;have HB1:=hid (HA.out.trans (hb.mono HA.out.size));have hl:=ab hX;have hz:=ah hX;have z0:=hz 0;have z1:=hz 1;have z2:=hz 2;have z3:=hz 3;have z4:=hz 4;have z5:=hz 5;have y0:=aa hX 0;have y1:=aa hX 1;have y2:=aa hX 2;have y3:=aa hX 3;have y4:=aa hX 4;have y5:=aa hX 5;simp only [List.getElem?_toArray,List.getElem?_cons_succ,List.getElem?_cons_zero] at y0 y1 y2 y3 y4 y5;obtain ⟨w8,hw8⟩:∃ w8,w8=(((((w1.setCell ⟨w.heap.size,0,none⟩ (.int .i64 H.mode)).setCell ⟨w.heap.size,1,none⟩ (.int .i64 H.pages)).setCell ⟨w.heap.size,2,none⟩ (.int .i64 H.trunk)).setCell ⟨w.heap.size,3,none⟩ (.int .i64 H.spare)).setCell ⟨w.heap.size,4,none⟩ (.int .i64 H.root)).setCell ⟨w.heap.size,5,none⟩ (.int .u64 H.change):=⟨_,rfl⟩;have HG8:=hid (show w8.heap[w.heap.size]?=some (dP H) by
  rw [hw8];exact ae (ae (ae (ae (ae (ae hX 0 (.int .i64 H.mode)) 1 (.int .i64 H.pages)) 2 (.int .i64 H.trunk)) 3 (.int .i64 H.spare)) 4 (.int .i64 H.root)) 5 (.int .u64 H.change))
 have HB8:=hid (show Below w.heap.size w w8 by
  rw [hw8];exact (((((HB1.out.setCell (p:=⟨w.heap.size,0,none⟩) (Nat.le_refl _) _).setCell (p:=⟨w.heap.size,1,none⟩) (Nat.le_refl _) _).setCell (p:=⟨w.heap.size,2,none⟩) (Nat.le_refl _) _).setCell (p:=⟨w.heap.size,3,none⟩) (Nat.le_refl _) _).setCell (p:=⟨w.heap.size,4,none⟩) (Nat.le_refl _) _).setCell (p:=⟨w.heap.size,5,none⟩) (Nat.le_refl _) _)
 have HW8:=hid hw8;clear hw8 hX hz hb;go_wp2_with fail;rw [← HW8.out];obtain ⟨q0,q1,q2,q3,q4,q5,ql⟩:=du HG8.out;exact bodyPost_ret (v:=.agg #[.int .i64 H.mode,.int .i64 H.pages,.int .i64 H.trunk,.int .i64 H.spare,.int .i64 H.root,.int .u64 H.change]) (by simp [results,Tryz.results13,go_sem,q0,q1,q2,q3,q4,q5]) rfl ⟨rfl,HB8.out⟩
theorem wm (w:World):Calls Tryz.prog 109 #[.pointer none] w fun e w'=>e=.returned (.int .i64 0)∧w=w':=by go_enter Tryz.func109,Tryz.ntmps109;go_wp2_with fail;go_ret;exact ⟨rfl,rfl⟩
def aN:Option (List Fr)→Nat
 | none=>0
 | some l=>l.length
theorem PgIs.llen {w:World} {L:PgL} {P:Pgr} (h:PgIs w L P):Calls Tryz.prog 109 #[bn L.G] w fun e w'=>e=.returned (.int .i64 (aN P.lg))∧w=w':=by
 rcases h.lgo with ⟨h1,h2⟩ | ⟨M,x,h1,h2,h3⟩
 ·rw [h1,h2];exact wm w
 ·rw [h1,h2];exact lq w h3
def Pgr.started (P:Pgr):Pgr:={ P.ended with busy:=true,work:=P.head,mark:=(aN P.lg:Nat) }
def jo (w:World) (g:Nat) (h:He) (m:Int):World:=((((((((w.setCell ⟨g,13,none⟩ (.bool true)).setCell ⟨g,15,none⟩ (.int .i64 h.mode)).setCell ⟨g,16,none⟩ (.int .i64 h.pages)).setCell ⟨g,17,none⟩ (.int .i64 h.trunk)).setCell ⟨g,18,none⟩ (.int .i64 h.spare)).setCell ⟨g,19,none⟩ (.int .i64 h.root)).setCell ⟨g,20,none⟩ (.int .u64 h.change)).setCell ⟨g,22,none⟩ (.int .i64 m)).drew
theorem nH (w:World):w.drew.heap=w.heap:=rfl
theorem ft {w:World} {L:PgL} {P:Pgr} (h:w.heap[L.gp]?=some (bX L P)) (H:He):((((((w.setCell ⟨L.gp,15,none⟩ (.int .i64 H.mode)).setCell ⟨L.gp,16,none⟩ (.int .i64 H.pages)).setCell ⟨L.gp,17,none⟩ (.int .i64 H.trunk)).setCell ⟨L.gp,18,none⟩ (.int .i64 H.spare)).setCell ⟨L.gp,19,none⟩ (.int .i64 H.root)).setCell ⟨L.gp,20,none⟩ (.int .u64 H.change)).heap[L.gp]?=some (bX L { P with work:=H }):=by have s1:_=some (bX L { P with work:={ P.work with mode:=H.mode } }):=ae h 15 (.int .i64 H.mode);have s2:_=some (bX L { P with work:={ P.work with mode:=H.mode,pages:=H.pages } }):=ae s1 16 (.int .i64 H.pages);have s3:_=some (bX L { P with work:={ P.work with mode:=H.mode,pages:=H.pages,trunk:=H.trunk } }):=ae s2 17 (.int .i64 H.trunk);have s4:_=some (bX L { P with work:={ P.work with mode:=H.mode,pages:=H.pages,trunk:=H.trunk,spare:=H.spare } }):=ae s3 18 (.int .i64 H.spare);have s5:_=some (bX L { P with work:={ P.work with mode:=H.mode,pages:=H.pages,trunk:=H.trunk,spare:=H.spare,root:=H.root } }):=ae s4 19 (.int .i64 H.root);exact ae s5 20 (.int .u64 H.change)
theorem tV {w:World} {L:PgL} {P:Pgr} (h:w.heap[L.gp]?=some (bX L.bare P.ended)):(jo w L.gp P.head (aN P.lg:Nat)).heap[L.gp]?=some (bX L.bare P.started):=by unfold jo;rw [nH];have s1:_=some (bX L.bare { P.ended with busy:=true }):=ae h 13 (.bool true);have s2:=ft (L:=L.bare) s1 P.head;exact ae s2 22 (.int .i64 (aN P.lg:Nat))
theorem tU {w w1:World} {L:PgL} {P:Pgr} (hp:PgIs w1 L.bare P.ended) (hc:Ch (fun k=>k=L.gp) w w1):PTo w L P.started (jo w1 L.gp P.head (aN P.lg:Nat)):=by
 have h2:Ch (fun k=>k=L.gp) w1 (jo w1 L.gp P.head (aN P.lg:Nat)):=by unfold jo;exact (((((((((Ch.refl (fun k=>k=L.gp) w1).setCell (p:=⟨L.gp,13,none⟩) rfl _).setCell (p:=⟨L.gp,15,none⟩) rfl _).setCell (p:=⟨L.gp,16,none⟩) rfl _).setCell (p:=⟨L.gp,17,none⟩) rfl _).setCell (p:=⟨L.gp,18,none⟩) rfl _).setCell (p:=⟨L.gp,19,none⟩) rfl _).setCell (p:=⟨L.gp,20,none⟩) rfl _).setCell (p:=⟨L.gp,22,none⟩) rfl _).drew
 refine ⟨L.bare,rfl,hp.setBlk (P':=P.started) h2 ?_ rfl rfl rfl rfl rfl ⟨hp.ok.s1,hp.ok.s2,hp.ok.base,hp.ok.hp,hp.ok.hp,hp.ok.nos⟩,fun k hk=>?_,(hc.trans h2).mono fun k _ e=>.inl e⟩
 ·exact tV hp.blk
 ·rcases hk with hk | hk | hk | hk | hk | hk
  ·exact .inl (.inl hk)
  ·exact .inl (.inr (.inl hk))
  ·exact .inl (.inr (.inr (.inl hk)))
  ·exact hk.elim
  ·rcases hk with hk | hk
   ·cases hk
   ·cases hk
  ·exact .inl (.inr (.inr (.inr (.inr (.inr hk)))))
theorem ij (w:World) {L:PgL} {P:Pgr} (h:PgIs w L P):
  Calls Tryz.prog 56 #[ai L.gp] w fun e w'=>e=.returned (.tuple #[])∧PTo w L P.started w':=by
 have HE:=hid (gg w h);have HH:=hid h;unfold ai at *;clear h;go_enter Tryz.func56,Tryz.ntmps56;go_wp2_with fail;refine HE.out.mono ?_;rintro e w1 ⟨rfl,hp,hc⟩;have hC:=ag hp.blk;have hl:=hC.lt;have hz:=hC.fz;have c2:=hC.c2;have c3:=hC.c3;have c4:=hC.c4;have c5:=hC.c5;have c6:=hC.c6;have c7:=hC.c7;have c9:=hC.c9;have c13:=hC.c13;have c15:=hC.c15;have c16:=hC.c16;have c17:=hC.c17;have c18:=hC.c18;have c19:=hC.c19;have c20:=hC.c20;have c22:=hC.c22;have z13:=hz 13;have z15:=hz 15;have z16:=hz 16;have z17:=hz 17;have z18:=hz 18;have z19:=hz 19;have z20:=hz 20;have z22:=hz 22;have HP:=hid (And.intro hp hc);have HL:=hid (show ∀ w2,Below w1.heap.size w1 w2→Calls Tryz.prog 109 #[bn L.G] w2 fun e w'=>e=.returned (.int .i64 (aN P.lg:Nat))∧w2=w' from fun w2 hb=>(hp.below hb).llen);simp only [PgL.bare,Pgr.ended] at hl c2 c3 c4 c5 c6 c7 c9 c13 c15 c16 c17 c18 c19 c20 c22 z13 z15 z16 z17 z18 z19 z20 z22;clear hp hc hC hz;have HF:=hid (tU HP.out.1 HP.out.2);unfold jo at HF;generalize P.head=H at *;generalize P.work=W at *;generalize P.mark=M at *;generalize L.G=G at *;generalize ((aN P.lg:Nat):Int)=m at *;go_upto_region 1 with fail
 go_region_with (go_at_call 109;refine (HL.out _ ((Below.refl _ w1).drew)).mono ?_;rintro e w2 ⟨rfl,rfl⟩)
 all_goals exact bodyPost_end (results_none rfl _ _ _) rfl ⟨rfl,HF.out⟩
theorem ik (w:World) {L:PgL} {P:Pgr} (h:PgIs w L P) (hu:P.Up):
  Calls Tryz.prog 19 #[ai L.gp] w fun e w'=>e=.returned (.int .i64 (if P.busy then 40 else 0))∧PTo w L (if P.busy then P else P.started) w':=by
 have hA:Below w.heap.size w (w.alloc (.cells #[.bool false] 4)):=(Below.refl _ w).alloc (Nat.le_refl _) _;have HA:=hid hA;have hX:(w.alloc (.cells #[.bool false] 4)).heap[w.heap.size]?=some (.cells #[.bool false] 4 (0,0)):=af rfl;have HBG:=hid (ak false w.heap.size _ (h.below hA) hu (aa hX 0) (ab hX));have HH:=hid h;unfold ai at *;clear hA hX hu h;cases hb:P.busy
 ·rw [hb] at HBG;go_enter Tryz.func19,Tryz.ntmps19;go_wp2_with fail;refine HBG.out.mono ?_;rintro e w1 ⟨rfl,hb1⟩;have HB1:=hid (HA.out.trans (hb1.mono HA.out.size));have HST:=hid (ij w1 (HH.out.below HB1.out));unfold ai at HST;clear hb1;go_wp2_with fail;refine HST.out.mono ?_;rintro e w2 ⟨rfl,hr⟩;have HR:=hid (hr.pre HB1.out);clear hr;go_wp2_with fail;go_ret;exact ⟨rfl,HR.out⟩
 ·rw [hb] at HBG;go_enter Tryz.func19,Tryz.ntmps19;go_wp2_with fail;refine HBG.out.mono ?_;rintro e w1 ⟨rfl,hb1⟩;have HB1:=hid (HA.out.trans (hb1.mono HA.out.size));clear hb1;go_wp2_with fail;go_ret;exact ⟨rfl,(PTo.refl HH.out).post HB1.out⟩
theorem dz {w:World} {v:Value} {gs:List Nat} {l:List Sv} (h:SvIs w v gs l):∃ A c,v=.slice A l.length c∧l.length≤c:=by
 obtain ⟨A,c,h1,h2⟩:=aD h.row;have hl:=h.len;have e:((l.map (·.head)).zip gs).length=l.length:=by rw [List.length_zip,List.length_map,hl,Nat.min_self]
 rw [e] at h1 h2;exact ⟨A,c,h1,h2⟩
theorem oy (n:Nat) (w:World) {L:PgL} {P:Pgr} (h:PgIs w L P) (hb:P.base≤n) (hs:P.saves=[]):
  Calls Tryz.prog 140 #[ai L.gp,.int .i64 n] w fun e w'=>e=.returned (.tuple #[.bool false,.bool false])∧Below w.heap.size w w':=by
 have hA:Below w.heap.size w (w.alloc (.cells #[.int .i64 n] 3)):=(Below.refl _ w).alloc (Nat.le_refl _) _;have HA:=hid hA;have hX:(w.alloc (.cells #[.int .i64 n] 3)).heap[w.heap.size]?=some (.cells #[.int .i64 n] 3 (0,0)):=af rfl;have HH:=hid (h.below hA);obtain ⟨A,c,hv,-⟩:=dz h.sv;rw [hs] at hv;have HV:=hid hv;have HX:=hid hX;have hbn2:decide (n<P.base)=false:=decide_eq_false (by omega);unfold ai at *;clear hA hX h hb hs hv;go_enter Tryz.func140,Tryz.ntmps140;go_upto_region 1 with fail
 have hw0:∃ w0,w.alloc (.cells #[.int .i64 n] 3)=w0:=⟨_,rfl⟩;obtain ⟨w0,hw0⟩:=hw0;rw [hw0] at HA HH HX ⊢;clear hw0;have hC:=ag HH.out.blk;have hl:=hC.lt;have x0:=aa HX.out 0;have xl:=ab HX.out;simp only [List.getElem?_toArray,List.getElem?_cons_zero] at x0;have c9:=hC.c9;have c8:=hC.c8;rcases HH.out.lgo with ⟨hG,-⟩ | ⟨M,x,hG,-,-⟩
 ·rw [hG] at c9;unfold bn at c9;clear hG;refine am (by kernel_rfl) (by kernel_rfl) ?_;have f8:=ay c8 hl;have f9:=ay c9 hl;have fx:=ay x0 xl
  repeat (go_big_quiet_step (fail))
  refine wpQuiet_nil ?_;rintro w1 ⟨⟨_,hb1⟩,rfl⟩;have HB1:=hid (HA.out.trans (hb1.mono HA.out.size));have hC:=ag (HH.out.below hb1).blk;have hl:=hC.lt;have c21:=hC.c21;rw [HV.out] at c21;clear hb1 hC x0 xl c9 c8 f8 f9 fx;go_wp2_with fail;go_ret2;exact ⟨rfl,HB1.out⟩
 ·rw [hG] at c9;unfold bn ai at c9;clear hG;refine am (by kernel_rfl) (by kernel_rfl) ?_;have f8:=ay c8 hl;have f9:=ay c9 hl;have fx:=ay x0 xl
  repeat (go_big_quiet_step (fail))
  refine wpQuiet_nil ?_;rintro w1 ⟨⟨_,hb1⟩,rfl⟩;have HB1:=hid (HA.out.trans (hb1.mono HA.out.size));have hC:=ag (HH.out.below hb1).blk;have hl:=hC.lt;have c21:=hC.c21;rw [HV.out] at c21;clear hb1 hC x0 xl c9 c8 f8 f9 fx;go_wp2_with fail;go_ret2;exact ⟨rfl,HB1.out⟩
theorem oC (n:Nat) (s:By) (w:World) {L:PgL} {P:Pgr} (h:PgIs w L P) (hb:P.base≤n) (hs:P.saves=[]) (hn:n<4096) (hl:(P.gone n s true).length≤1000) (hc:bU (P.putc n s true) (P.gone n s true)):
  Calls Tryz.prog 93 #[ai L.gp,.int .i64 n,.string (aj s)] w fun e w'=>e=.returned (.int .i64 0)∧PTo w L (P.hold n s true) w':=by
 have HW:=hid (oy n w h hb hs);have HHD:=hid (fun (w':World) (hb:Below w.heap.size w w')=>cY n s true w' (h.below hb) hn hl hc);unfold ai at *;clear h hb hs hn hl hc;go_enter Tryz.func93,Tryz.ntmps93;go_wp2_with fail;refine HW.out.mono ?_;rintro e w1 ⟨rfl,hb1⟩;have HB1:=hid hb1;clear hb1;go_wp2_with fail;refine (HHD.out w1 HB1.out).mono ?_;rintro e w2 ⟨rfl,hr⟩;have HR:=hid (hr.pre HB1.out);clear hr;go_wp2_with fail;go_ret;exact ⟨rfl,HR.out⟩
def Dk.setRoom (d:Dk) (n:Int):Dk:={ d with room:=min (max n 0) 16384 }
theorem vH (n:Int) (w:World) {L:DkM} {d:Dk} (h:DkIs w L d):
  Calls Tryz.prog 42 #[.pointer (some ⟨L.gd,0,none⟩),.int .i64 n] w fun e w'=>e=.returned (.tuple #[])∧DkIs w' L (d.setRoom n)∧Ch (fun k=>k=L.gd) w w':=by
 obtain ⟨ops,hb⟩:=h.blk;have HH:=hid h;obtain ⟨c0,c1,c2,c3,c4,c5,c6,c7,hlt,hfz⟩:=bH hb;have f1:=hfz 1;obtain ⟨m,hm⟩:∃ m,m=min (max n 0) 16384:=⟨_,rfl⟩;have HM:=hid hm;have H1:=hid (ae hb 1 (.int .i64 m));have HC:=hid ((Ch.refl (fun k=>k=L.gd) w).setCell (p:=⟨L.gd,1,none⟩) rfl (.int .i64 m));have HD:=hid (show DkIs (w.setCell ⟨L.gd,1,none⟩ (.int .i64 m)) L (d.setRoom n) from by
  refine HH.out.blk' (ops:=ops) HC.out ?_ rfl ⟨HH.out.ok.nd,HH.out.ok.few,HH.out.ok.fok,?_,HH.out.ok.life,HH.out.ok.at_,HH.out.ok.kind,HH.out.ok.more⟩
  ·rw [show yU L.gm (d.setRoom n) ops=.cells #[.map (some L.gm),.int .i64 m,.bool d.down,.int .i64 ops,.int .i64 d.life,.int .i64 d.at_,.int .i64 d.kind,.int .i64 d.more] 69 (0,0) by rw [HM.out];rfl];exact H1.out
  ·show 0≤min (max n 0) 16384∧min (max n 0) 16384≤16384;omega)
 clear h hb hfz;go_enter Tryz.func42,Tryz.ntmps42;obtain rfl:=HM.out;clear hm;go_wp2_with fail;exact bodyPost_end (results_none rfl _ _ _) rfl ⟨rfl,HD.out,HC.out⟩
theorem DkIs.fresh {w:World} {gd gm:Nat} (hm:pk w gm []) (hb:∃ ops,w.heap[gd]?=some (yU gm ⟨[],0,false,0,0,0,0⟩ ops)) (hn:gm≠gd):DkIs w ⟨gd,gm,[],fun _=>False,fun _=>[],fun _=>filZ⟩ ⟨[],0,false,0,0,0,0⟩:=
 ⟨⟨List.nodup_nil,Nat.zero_le _,fun _ h=>(by cases h),by decide,by decide,by decide,by decide,by decide⟩,hb,hm,fun _ h=>h.elim,fun _ h=>(by cases h),rfl,hn,⟨id,id⟩,fun _ h=>(by cases h),fun _ h=>(by cases h)⟩
theorem fg (n:Int) (w:World):Calls Tryz.prog 10 #[.int .i64 n] w fun e w'=>∃ L,e=.returned (.pointer (some ⟨L.gd,0,none⟩))∧DkIs w' L (Dk.new n)∧(∀ k,L.F k→w.heap.size≤k)∧Below w.heap.size w w':=by
 have hmm:=@run_makeMap Tryz.prog;have h0:(w.alloc (.map #[] 0)).heap.size=w.heap.size+1:=by simp
 have HMP:=hid ((MpIs.made (kt:=9) (R:=ga) (kl:=oL) (vd:=AO) w).ch (S:=fun _=>False) ((Ch.refl _ _).alloc (yU w.heap.size ⟨[],0,false,0,0,0,0⟩ 0)) id);have HD:=hid (DkIs.fresh HMP.out ⟨0,af h0.symm⟩ (by omega));have HB:=hid (((Below.refl _ w).alloc (Nat.le_refl _) (.map #[] 0)).alloc (by simp) (yU w.heap.size ⟨[],0,false,0,0,0,0⟩ 0));go_enter Tryz.func10,Tryz.ntmps10;go_wp2_with fail;refine (vH n _ HD.out).mono ?_;rintro e w1 ⟨rfl,hd,hc⟩;have HD1:=hid hd;have HB1:=hid (HB.out.trans (hc.below (B:=w.heap.size) (by simp;omega) (fun k e=>by rw [e];simp only;omega)));clear hd hc;go_wp2_with fail;go_ret;refine ⟨_,rfl,HD1.out,fun k hk=>?_,HB1.out⟩;rcases hk with hk | hk | hk | ⟨p,hp,hk⟩
 ·rw [hk];simp only;omega
 ·rw [hk];exact Nat.le_refl _
 ·exact hk.elim
 ·cases hp
theorem td (w:World) {L:DkM} {d:Dk} (h:DkIs w L d) (hl:d.life<1000000):
  Calls Tryz.prog 15 #[.pointer (some ⟨L.gd,0,none⟩)] w fun e w'=>e=.returned (.tuple #[])∧DkIs w' L d.off∧Ch (fun k=>k=L.gd) w w':=by
 obtain ⟨ops,hb⟩:=h.blk;have HH:=hid h;have hlf:=h.ok.life;obtain ⟨c0,c1,c2,c3,c4,c5,c6,c7,hlt,hfz⟩:=bH hb;have f2:=hfz 2;have f4:=hfz 4;have f5:=hfz 5;have hw:IntKind.i64.wrap (d.life+1)=d.life+1:=by rw [IntKind.wrap_i64];omega
 have HOK:=hid (show d.off.Ok from ⟨HH.out.ok.nd,HH.out.ok.few,HH.out.ok.fok,HH.out.ok.room,by unfold Dk.off;split <;> simp only <;> omega,by unfold Dk.off;simp,HH.out.ok.kind,HH.out.ok.more⟩);have HB:=hid hb;clear h hb hfz;go_enter Tryz.func15,Tryz.ntmps15;cases hd:d.down
 ·rw [hd] at c2;have H1:=hid (ae (ae (ae HB.out 4 (.int .i64 (d.life+1))) 2 (.bool true)) 5 (.int .i64 0));have HC:=hid ((((Ch.refl (fun k=>k=L.gd) w).setCell (p:=⟨L.gd,4,none⟩) rfl (.int .i64 (d.life+1))).setCell (p:=⟨L.gd,2,none⟩) rfl (.bool true)).setCell (p:=⟨L.gd,5,none⟩) rfl (.int .i64 0));have HE:=hid (show d.off={ d with life:=d.life+1,down:=true,at_:=0 } by unfold Dk.off;rw [hd];rfl);go_wp2_with fail;exact bodyPost_end (results_none rfl _ _ _) rfl ⟨rfl,HH.out.blk' (ops:=ops) HC.out (by rw [HE.out];exact H1.out) rfl HOK.out,HC.out⟩
 ·rw [hd] at c2;have H1:=hid (ae (ae HB.out 2 (.bool true)) 5 (.int .i64 0));have HC:=hid (((Ch.refl (fun k=>k=L.gd) w).setCell (p:=⟨L.gd,2,none⟩) rfl (.bool true)).setCell (p:=⟨L.gd,5,none⟩) rfl (.int .i64 0));have HE:=hid (show d.off={ d with down:=true,at_:=0 } by unfold Dk.off;rw [hd];rfl);go_wp2_with fail;exact bodyPost_end (results_none rfl _ _ _) rfl ⟨rfl,HH.out.blk' (ops:=ops) HC.out (by rw [HE.out];exact H1.out) rfl HOK.out,HC.out⟩
def Pgr.empty (P:Pgr):Pgr:={ P.ended with ca:=[],base:=0,head:=⟨1,1,0,0,0,0⟩ }
theorem mp {w:World} {L:PgL} {P:Pgr} (h:w.heap[L.gp]?=some (bX L P)) (H:He):((((((w.setCell ⟨L.gp,2,none⟩ (.int .i64 H.mode)).setCell ⟨L.gp,3,none⟩ (.int .i64 H.pages)).setCell ⟨L.gp,4,none⟩ (.int .i64 H.trunk)).setCell ⟨L.gp,5,none⟩ (.int .i64 H.spare)).setCell ⟨L.gp,6,none⟩ (.int .i64 H.root)).setCell ⟨L.gp,7,none⟩ (.int .u64 H.change)).heap[L.gp]?=some (bX L { P with head:=H }):=by have s1:_=some (bX L { P with head:={ P.head with mode:=H.mode } }):=ae h 2 (.int .i64 H.mode);have s2:_=some (bX L { P with head:={ P.head with mode:=H.mode,pages:=H.pages } }):=ae s1 3 (.int .i64 H.pages);have s3:_=some (bX L { P with head:={ P.head with mode:=H.mode,pages:=H.pages,trunk:=H.trunk } }):=ae s2 4 (.int .i64 H.trunk);have s4:_=some (bX L { P with head:={ P.head with mode:=H.mode,pages:=H.pages,trunk:=H.trunk,spare:=H.spare } }):=ae s3 5 (.int .i64 H.spare);have s5:_=some (bX L { P with head:={ P.head with mode:=H.mode,pages:=H.pages,trunk:=H.trunk,spare:=H.spare,root:=H.root } }):=ae s4 6 (.int .i64 H.root);exact ae s5 7 (.int .u64 H.change)
def yI (w:World) (g:Nat):World:=(((((((w.setCell ⟨g,9,none⟩ (.pointer none)).setCell ⟨g,8,none⟩ (.int .i64 0)).setCell ⟨g,2,none⟩ (.int .i64 1)).setCell ⟨g,3,none⟩ (.int .i64 1)).setCell ⟨g,4,none⟩ (.int .i64 0)).setCell ⟨g,5,none⟩ (.int .i64 0)).setCell ⟨g,6,none⟩ (.int .i64 0)).setCell ⟨g,7,none⟩ (.int .u64 0)
theorem wN {w:World} {L:PgL} {P:Pgr} (h:PgIs w L P) (hlg:P.lg=none):PgIs (yI w L.gp) L { P with base:=0,head:=⟨1,1,0,0,0,0⟩ }∧Ch (fun k=>k=L.gp) w (yI w L.gp):=by
 have hc:Ch (fun k=>k=L.gp) w (yI w L.gp):=((((((((Ch.refl (fun k=>k=L.gp) w).setCell (p:=⟨L.gp,9,none⟩) rfl _).setCell (p:=⟨L.gp,8,none⟩) rfl _).setCell (p:=⟨L.gp,2,none⟩) rfl _).setCell (p:=⟨L.gp,3,none⟩) rfl _).setCell (p:=⟨L.gp,4,none⟩) rfl _).setCell (p:=⟨L.gp,5,none⟩) rfl _).setCell (p:=⟨L.gp,6,none⟩) rfl _).setCell (p:=⟨L.gp,7,none⟩) rfl _;have e9:bn L.G=.pointer none:=by rw [h.nolg hlg];rfl
 have s1:(w.setCell ⟨L.gp,9,none⟩ (.pointer none)).heap[L.gp]?=some (bX L P):=by rw [← e9];exact ae h.blk 9 (bn L.G)
 have s2:_=some (bX L { P with base:=0 }):=ae s1 8 (.int .i64 0);have s3:=mp s2 ⟨1,1,0,0,0,0⟩;exact ⟨h.setBlk (P':={ P with base:=0,head:=⟨1,1,0,0,0,0⟩ }) hc s3 rfl rfl rfl rfl rfl ⟨h.ok.s1,h.ok.s2,Nat.zero_le _,by show 1≤4096;decide,h.ok.wp,h.ok.nos⟩,hc⟩
theorem rB (w:World) {L:PgL} {P:Pgr} (h:PgIs w L P) (hlg:P.lg=none) (hd:P.d.files=[]) (hdn:P.d.down=false):
  Calls Tryz.prog 45 #[ai L.gp] w fun e w'=>e=.returned (.int .i64 0)∧PTo w L P.empty w':=by
 have HE:=hid (gg w h);have HH:=hid h;have hj:P.d.size aQ=-1:=Dk.size_none (by unfold Dk.file;rw [hd];rfl);have hm:P.d.size aA=-1:=Dk.size_none (by unfold Dk.file;rw [hd];rfl);have HSZ:=hid (And.intro hj (And.intro hm hdn));have hl0:=(ag h.blk).lt;have HLG:=hid (show P.ended.lg=none from hlg);unfold ai at *;clear h hd hdn hj hm hlg;go_enter Tryz.func45,Tryz.ntmps45;go_wp2_with fail;refine HE.out.mono ?_;rintro e w1 ⟨rfl,hp,hc⟩;have HP1:=hid (And.intro hp hc);have c1:=(ag hp.blk).c1;have hl1:=(ag hp.blk).lt;simp only [PgL.bare] at c1 hl1;have HCL:=hid (eC w1 hp.ca (by have:=hp.ok.s1;omega));simp only [PgL.bare] at HCL;clear hp hc;go_wp2_with fail;refine HCL.out.mono ?_;rintro e w2 ⟨F',rfl,hca,hF,hch⟩;obtain ⟨G,-,p2,f2,k2⟩:=HP1.out.1.putCa hca hF hch;have HP2:=hid p2;have HT2:=hid (And.intro f2 k2);clear hca hF hch p2 f2 k2;have hg2:(({ L.bare with Fc:=fun k=>k ∈ G }:PgL)).gp=L.gp:=rfl;have HG2:=hid hg2;generalize ({ L.bare with Fc:=fun k=>k ∈ G }:PgL)=L2 at *;go_wp2_with fail;refine (nD w2).mono ?_;rintro e w3 ⟨rfl,hb3⟩;have HB3:=hid hb3;have HP3:=hid (HP2.out.below hb3);have hC:=ag HP3.out.blk;have c2:=hC.c2;have c3:=hC.c3;have c4:=hC.c4;have c5:=hC.c5;have c6:=hC.c6;have c7:=hC.c7;have c8:=hC.c8;have c9:=hC.c9;have z2:=hC.fz 2;have z3:=hC.fz 3;have z4:=hC.fz 4;have z5:=hC.fz 5;have z6:=hC.fz 6;have z7:=hC.fz 7;have z8:=hC.fz 8;have z9:=hC.fz 9;have hl3:=hC.lt;have hq:=wN HP3.out HLG.out;rw [hg2] at c2 c3 c4 c5 c6 c7 c8 c9 z2 z3 z4 z5 z6 z7 z8 z9 hl3 hq;have HQ:=hid hq;unfold yI at HQ;unfold fJ lN;clear hC hb3 hg2 hq c1;go_upto_region 4 with fail
 have hw4:∃ w4,yI w3 L.gp=w4:=⟨_,rfl⟩;obtain ⟨w4,hw4⟩:=hw4;unfold yI at hw4;rw [hw4] at HQ ⊢;clear hw4 c2 c3 c4 c5 c6 c7 c8 c9 z2 z3 z4 z5 z6 z7 z8 z9 hl3 hl0;have c0:=(ag HQ.out.1.blk).c0;have hl4:=(ag HQ.out.1.blk).lt;rw [HG2.out] at c0 hl4;have HSJ:=hid (bp aQ (by decide) w4 HQ.out.1.dk);have HSM:=hid (bp aA (by decide) w4 HQ.out.1.dk);have HDN:=hid (co w4 HQ.out.1.dk);simp only [Pgr.ended] at HSJ HSM HDN;rw [HSZ.out.1] at HSJ;rw [HSZ.out.2.1] at HSM;rw [HSZ.out.2.2] at HDN;have HF:=hid (show PTo w L P.empty w4 from by
  refine PTo.and (L:=L) (L1:=L.bare) rfl (fun k hk=>?_) (HP1.out.2.mono fun k _ e=>.inl e) (PTo.and (L:=L.bare) HG2.out HT2.out.1 HT2.out.2 (PTo.pre ?_ HB3.out))
  ·rcases hk with hk | hk | hk | hk | hk | hk
   ·exact .inl (.inl hk)
   ·exact .inl (.inr (.inl hk))
   ·exact .inl (.inr (.inr (.inl hk)))
   ·exact hk.elim
   ·rcases hk with hk | hk
    ·cases hk
    ·cases hk
   ·exact .inl (.inr (.inr (.inr (.inr (.inr hk)))))
  ·exact ⟨L2,rfl,HQ.out.1,fun _ hk=>.inl hk,HQ.out.2.mono fun k _ e=>.inl (e.trans HG2.out.symm)⟩)
 unfold cZ at HSJ HSM;unfold ai at c0;go_wp2_with fail;refine HSJ.out.mono ?_;rintro e w5 ⟨rfl,rfl⟩;go_wp2_with fail;refine HDN.out.mono ?_;rintro e w5 ⟨rfl,rfl⟩;go_wp2_with fail;refine HSM.out.mono ?_;rintro e w5 ⟨rfl,rfl⟩;go_wp2_with fail;go_ret;exact ⟨rfl,HF.out⟩
def Pgr.fresh (d:Dk) (size:Int) (gd:Nat):Pgr:=⟨d,xW size,[],⟨0,0,0,0,0,0⟩,0,d.life,false,false,false,false,⟨0,0,0,0,0,0⟩,[],0,false,none,false,gd,none⟩
theorem dC (size:Int) (w:World) {D:DkM} {d:Dk} (h:DkIs w D d) (hd:d.files=[]) (hdn:d.down=false):
  Calls Tryz.prog 11 #[ai D.gd,.int .i64 size] w fun e w'=>∃ L,e=.returned (.tuple #[ai L.gp,.int .i64 0])∧PgIs w' L (Pgr.fresh d size D.gd).empty∧(∀ k,L.F k→D.F k∨w.heap.size≤k)∧Ch D.F w w':=by
 have HH:=hid h;have HD:=hid (And.intro hd hdn);unfold ai;clear h hd hdn;go_enter Tryz.func11,Tryz.ntmps11;go_wp2_with fail;refine (xu size w).mono ?_;rintro e w1 ⟨v,Fc,rfl,hca,hF,hb1⟩;obtain ⟨a,rfl⟩:=hca.ptr;have HD1:=hid (HH.out.ch (Ch.of_below (S:=fun _=>False) hb1) (fun _ _ h=>h));have HL:=hid (dn w1 HD1.out);have HB1:=hid hb1;have HCA:=hid hca;have HF1:=hid hF;clear hca hF hb1;go_wp2_with fail;refine HL.out.mono ?_;rintro e w2 ⟨rfl,rfl⟩;obtain ⟨G,hG1,hG2⟩:=HCA.out.lt;have hsz:=oo size
 have hPI:PgIs (w1.alloc (bX ⟨w1.heap.size,D,.pointer (some a),fun k=>k ∈ G,none,.slice none 0 0,[],none⟩ (Pgr.fresh d size D.gd))) ⟨w1.heap.size,D,.pointer (some a),fun k=>k ∈ G,none,.slice none 0 0,[],none⟩ (Pgr.fresh d size D.gd):=by
  have hA:Below w1.heap.size w1 (w1.alloc (bX ⟨w1.heap.size,D,.pointer (some a),fun k=>k ∈ G,none,.slice none 0 0,[],none⟩ (Pgr.fresh d size D.gd))):=(Below.refl _ w1).alloc (Nat.le_refl _) _;have hDl:∀ k,D.F k→k<w.heap.size:=fun k hk=>HH.out.lt hk
  have hws:=HB1.out.size;refine PgIs.build ⟨hsz.1,hsz.2,Nat.zero_le _,Nat.zero_le _,Nat.zero_le _,Nat.zero_le _⟩ (af rfl) (HD1.out.ch (Ch.of_below (S:=fun _=>False) hA) (fun _ _ h=>h)) (hG2.below hA) (fun k hk=>Nat.lt_of_lt_of_le (hG1 k hk).1 hA.size) (.inl ⟨rfl,rfl⟩) (SvIs.nil _) (.inl ⟨rfl,rfl⟩) ⟨fun hk=>?_,fun hk=>?_,fun hk=>hk,fun hk=>?_,fun k hk hc=>?_,fun _ _ hc=>hc,fun k _ hc=>?_,fun _ _ hc=>hc,fun k _ hc=>?_,fun _ hk=>hk.elim,fun hk=>hk,fun _ _ hc=>hc,fun _ _ hc=>hc,fun _ _ hc=>hc,fun _ _ hc=>hc⟩ rfl
  ·have:=hDl _ hk;simp only at this;omega
  ·have:=(hG1 _ hk).1;simp only at this;omega
  ·rcases hk with hk | hk <;> cases hk
  ·have:=hDl k hk;have:=HF1.out k (hG1 k hc).2;omega
  ·rcases hc with hc | hc <;> cases hc
  ·rcases hc with hc | hc <;> cases hc
 have HPI:=hid hPI;have HF0:=hid (rB _ hPI rfl HD.out.1 HD.out.2);have HGG:=hid (fun k (hk:k ∈ G)=>HF1.out k (hG1 k hk).2);unfold ai at HF0;clear hPI hG1 hG2 hsz;go_wp2_with fail;refine HF0.out.mono ?_;rintro e w2 ⟨rfl,L2,g2,p2,f2,k2⟩;have HT:=hid (And.intro p2 (And.intro f2 k2));have HG:=hid g2;clear g2 p2 f2 k2;go_wp2_with fail;go_ret2;have hws:=HB1.out.size
 have hF2:∀ k,L2.F k→D.F k∨w.heap.size≤k:=fun k hk=>by
  rcases HT.out.2.1 k hk with hk | hk
  ·rcases hk with hk | hk | hk | hk | hk | hk
   ·right;have hk:k=w1.heap.size:=hk;omega
   ·exact .inl hk
   ·exact .inr (HGG.out k hk)
   ·exact hk.elim
   ·rcases hk with hk | hk <;> cases hk
   ·exact hk.elim
  ·right;simp at hk;omega
 exact ⟨L2,by rw [HG.out];rfl,HT.out.1,hF2,((Ch.of_below HB1.out).trans (Ch.of_below ((Below.refl _ w1).alloc (Nat.le_refl _) _))).then HT.out.2.2 fun k hk=>by
  rcases hk with hk | hk | hk | hk | hk | hk
  ·right;have hk:k=w1.heap.size:=hk;omega
  ·exact .inl hk
  ·exact .inr (HGG.out k hk)
  ·exact hk.elim
  ·rcases hk with hk | hk <;> cases hk
  ·exact hk.elim⟩
def Pgr.hasN (P:Pgr) (n:Nat):Bool:=match P.notes with
 | none=>false
 | some j=>j.has n
def Pgr.fj (P:Pgr) (n:Nat):Bool:=P.lg.isNone && (decide (n<P.base) && !P.hasN n)
def iz (n:Nat) (s:Sv):Bool:=decide (n<s.head.pages)
def Pgr.any (P:Pgr) (n:Nat):Bool:=P.saves.any (iz n)
def Pgr.hasI (P:Pgr) (n:Nat):Bool:=match P.saves.getLast? with
 | none=>false
 | some s=>(aC s.im (n:Int)).isSome
def Pgr.fs (P:Pgr) (n:Nat):Bool:=!P.saves.isEmpty && (P.any n && !P.hasI n)
def bo (n:Nat) (p:He × Nat):Bool:=decide (n<p.1.pages)
def pD (p:He × Nat):Obj:=.cells (mO p).toArray 114 (0,0)
def sV (p:He × Nat):Value:=.agg #[.int .i64 p.1.mode,.int .i64 p.1.pages,.int .i64 p.1.trunk,.int .i64 p.1.spare,.int .i64 p.1.root,.int .u64 p.1.change,.map (some p.2)]
theorem sJ (n:Nat) (p:He × Nat) (g:Nat) (w:World) (hg:w.cell? ⟨g,0,none⟩=some (.int .i64 n)) (hl:g<w.heap.size):
  Calls Tryz.prog 200 #[sV p,.pointer (some ⟨g,0,none⟩)] w fun e w'=>e=.returned (.bool (bo n p))∧Below w.heap.size w w':=by
 have HA:=hid ((Below.refl _ w).alloc (Nat.le_refl _) (pD p));unfold sV;go_enter Tryz.func200,Tryz.ntmps200;by_cases h:n<p.1.pages
 ·have h1:(n:Int)<(p.1.pages:Int):=by omega
  go_wp2_with fail;go_ret;exact ⟨by simp [bo,h],HA.out⟩
 ·have h1:¬ (n:Int)<(p.1.pages:Int):=by omega
  go_wp2_with fail;go_ret;exact ⟨by simp [bo,h],HA.out⟩
theorem oK {α:Type} {p:α→Bool} {xs:List α} {k:Nat} (hn:∀ j (h:j<xs.length),j<k→p xs[j]=false) (hk:k<xs.length) (h:p xs[k]=false):∀ j (h:j<xs.length),j<k+1→p xs[j]=false:=fun j hj hjk=>by
 rcases Nat.lt_succ_iff_lt_or_eq.1 hjk with h1 | rfl
 ·exact hn j hj h1
 ·exact h
theorem sq (n:Nat) (g:Nat) (v:Value) (xs:List (He × Nat)) (w:World) (h:Sl mO 7 w v xs) (hl:xs.length≤1000000) (hg:w.cell? ⟨g,0,none⟩=some (.int .i64 n)) (hgl:g<w.heap.size):
  Calls Tryz.prog 206 #[v,.func (Fn.func 200) #[] #[.pointer (some ⟨g,0,none⟩)]] w fun e w'=>e=.returned (.int .i64 (bI (bo n) xs))∧Below w.heap.size w w':=by
 obtain ⟨A,c,rfl⟩:=Sl.len' h;have H:=hid h;have HG:=hid (And.intro hg hgl);clear h hg hgl;go_enter Tryz.func206,Tryz.ntmps206;go_wp2_with fail;go_loopw [8] (fun i wr=>∃ k:Nat,k≤xs.length∧i=.int .i64 k∧(∀ j (h:j<xs.length),j<k→bo n xs[j]=false)∧Below w.heap.size w wr) (fun i _=>xs.length - (intOf i).toNat)
 case atStart=>exact ⟨0,Nat.zero_le _,rfl,fun _ _ h=>absurd h (Nat.not_lt_zero _),Below.refl _ _⟩
 case round=>
  obtain ⟨k,hk,rfl,hno,hb⟩:=hrel;have HN:=hid hno;have HB:=hid hb;clear hno hb;by_cases hlt:k<xs.length
  ·obtain ⟨b,off,c',he,hbl,hcells⟩:=(H.out.keep HB.out).at1 hlt;injection he with he1 he2 he3
   subst he1 he3;have hk0:(0:Int)≤(k:Int):=by omega
   have hk1:(k:Int)<(xs.length:Int):=by omega
   have HI:=hid (show bo n xs[k]=true→bI (bo n) xs=k from fun h=>fM hlt h HN.out);have HU:=hid (show bo n xs[k]=false→∀ j (h:j<xs.length),j<k+1→bo n xs[j]=false from fun h=>oK HN.out hlt h);generalize xs[k]=x at *;have e0:wr.cell? ⟨b,off+k * 7,none⟩=some (.int .i64 x.1.mode):=hcells 0 _ rfl;have e1:wr.cell? ⟨b,off+k * 7+1,none⟩=some (.int .i64 x.1.pages):=hcells 1 _ rfl;have e2:wr.cell? ⟨b,off+k * 7+2,none⟩=some (.int .i64 x.1.trunk):=hcells 2 _ rfl;have e3:wr.cell? ⟨b,off+k * 7+3,none⟩=some (.int .i64 x.1.spare):=hcells 3 _ rfl;have e4:wr.cell? ⟨b,off+k * 7+4,none⟩=some (.int .i64 x.1.root):=hcells 4 _ rfl;have e5:wr.cell? ⟨b,off+k * 7+5,none⟩=some (.int .u64 x.1.change):=hcells 5 _ rfl;have e6:wr.cell? ⟨b,off+k * 7+6,none⟩=some (.map (some x.2)):=hcells 6 _ rfl;have HBL:=hid (sJ n x g wr ((HB.out.cell (p:=⟨g,0,none⟩) HG.out.2).trans HG.out.1) (Nat.lt_of_lt_of_le HG.out.2 HB.out.size));unfold sV at HBL;clear hcells;go_wp2_with fail;refine HBL.out.mono ?_;rintro e w' ⟨rfl,hb⟩;have HB2:=hid (HB.out.trans (hb.mono HB.out.size));clear hb;cases hx:bo n x
   ·have HX:=hid (HU.out hx);go_wp2_with fail;go_roundw
    case rel=>exact ⟨k+1,by omega,by go_num,HX.out,HB2.out⟩
    case measure=>simp [intOf];omega
   ·have HX:=hid (HI.out hx);go_wp2_with fail;go_ret;exact ⟨by rw [HX.out];rfl,HB2.out⟩
  ·have HX:=hid (dZ (p:=bo n) hlt HN.out);go_wp2_with fail;go_ret;exact ⟨by rw [HX.out];rfl,HB.out⟩
theorem mI (n:Nat) (g:Nat) (v:Value) (xs:List (He × Nat)) (w:World) (h:Sl mO 7 w v xs) (hl:xs.length≤1000000) (hg:w.cell? ⟨g,0,none⟩=some (.int .i64 n)) (hgl:g<w.heap.size):
  Calls Tryz.prog 147 #[v,.func (Fn.func 200) #[] #[.pointer (some ⟨g,0,none⟩)]] w fun e w'=>e=.returned (.bool (xs.any (bo n)))∧Below w.heap.size w w':=by
 go_enter Tryz.func147,Tryz.ntmps147;go_wp2_with fail;refine (sq n g v xs w h hl hg hgl).mono ?_;rintro e w' ⟨rfl,hb⟩;have HB:=hid hb;clear hb;have HF:=hid (fL (bo n) xs);generalize bI (bo n) xs=m at *;go_wp2_with fail;go_ret;exact ⟨by rw [← HF.out];rfl,HB.out⟩
end Go.Proofs.YtdmhbgpejppbkaaGreat
