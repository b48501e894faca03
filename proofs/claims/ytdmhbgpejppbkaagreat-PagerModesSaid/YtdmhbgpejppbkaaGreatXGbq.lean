/- journal: found.add of a foot. journal: Find. slices.Backward over pages. -/
import Derived.Test.YtdmhbgpejppbkaaGreatXGbp
import Derived.Test.YtdmhbgpejppbkaaGreatXGay
import Derived.Test.YtdmhbgpejppbkaaGreatXGbm
import Derived.Test.YtdmhbgpejppbkaaGreatXGat
import Derived.Lib.SlKeysI
import Derived.Shelf.AbstractIn
import Derived.RangeFuncMany
import Derived.RangeFuncStops
import Derived.RangeFuncLeaves
import Derived.OwnWalkIn
import Derived.TacticsInMore
import Derived.RegionIn
import Derived.LoopNIn
import Derived.LoopIn
set_option maxRecDepth 100000
set_option maxHeartbeats 8000000
namespace Go.Proofs.YtdmhbgpejppbkaaGreat
open Go.Lib (hid)
open Go.RowKit Go.Maps
theorem bR (l:List (Nat × By)):(aV l).length=l.length:=by unfold aV;rw [List.length_map]
theorem kM {l:List (Nat × By)} {p:Nat} (h:∀ r ∈ l,r.1<p):(aV l).any (cK p)=false:=by rw [List.any_eq_false];intro x hx;obtain ⟨r,hr,rfl⟩:=List.mem_map.1 hx;have:=h r hr;unfold cK;simp only [decide_eq_true_eq];omega
theorem uP (p f:Nat):(aj (bB p f)).extract 0 4=aj (aG 4 p):=by rw [cV,aR,List.drop_zero];unfold bB;rw [List.append_assoc,List.take_append_of_le_length (by rw [aq];omega),List.take_of_length_le (by rw [aq];omega)]
theorem iH {W:World} {b:Nat} {v y:Value} {xs ys:List Pg} (h:Own Pg.cells 2 134 b W v xs) (hy:Sl Pg.cells 2 W y ys) (hl:xs.length+ys.length≤100000) (hb:b≤W.heap.size):
  ∃ v' w',(dU #[135,135] 135 #[v,y]).run Tryz.prog W.drew=.ok v' w'∧Own Pg.cells 2 134 b w' v' (xs ++ ys)∧Ch (fun k=>v.ownBlock=some k) W w'∧∀ k,v'.ownBlock=some k→v.ownBlock=some k∨W.heap.size≤k:=by
 have hA:Below W.heap.size W W.drew:=(Below.refl W.heap.size W).drew;obtain ⟨v',w6,hr,ho,hg,hat⟩:=aZ (P:=Tryz.prog) Av 135 (h.below hA) (hy.keep hA) (by unfold maxLen;omega) (by omega) (Nat.le_trans hb hA.size);refine ⟨v',w6,hr,ho,(Ch.of_below hA).trans (Ch.of_grown hg fun k hk=>hk),fun k hk=>?_⟩;rcases hat with hat | hat
 ·exact .inl (hat ▸ hk)
 ·rw [hat] at hk;injection hk with hk
  have:=hA.size;exact .inr (by omega)
attribute [local go_sem ↓] fN
theorem uW (pages salt i:Nat) (x:JS) (w:World) {b gf:Nat} {vs vl:Value} (h:FdIs w b gf pages salt x i vs vl) (hp:pages≤4096) (hf:x.f≤100000) (hlo:∀ r ∈ x.lo,r.1<pages) (hl:x.lo.length≤1000) (hsl:x.su.length≤1000):
  Calls Tryz.prog 207 #[ai gf,cN 3 x.lo.length salt (aj (bB pages x.f)),.bool (decide (i=0))] w fun e w'=>e=.returned (.bool true)∧pm w b gf pages salt (x.go none) (i+1) w':=by
 have HH:=hid h;have hgl:=h.bg;have hgw:=ab h.blk;obtain ⟨Asu,csu,rfl,-⟩:=aD h.su;obtain ⟨Alo,clo,rfl,-⟩:=aD h.lo;rw [bR,bR] at *;obtain ⟨wA,hwA⟩:∃ wA,w.alloc (.cells #[.int .i64 3,.int .i64 x.lo.length,.int .u64 salt,.string (aj (bB pages x.f))] 181)=wA:=⟨_,rfl⟩;have hAA:Below w.heap.size w wA:=by rw [← hwA];exact (Below.refl _ w).alloc (Nat.le_refl _) _
 have hxb:wA.heap[w.heap.size]?=some (bq 3 x.lo.length salt (aj (bB pages x.f))):=by rw [← hwA];exact af rfl
 have hwl:wA.heap.size=w.heap.size+1:=by rw [← hwA];simp
 have x0:=aa hxb 0;have x1:=aa hxb 1;have x2:=aa hxb 2;have x3:=aa hxb 3;simp only [List.getElem?_toArray,List.getElem?_cons_succ,List.getElem?_cons_zero] at x0 x1 x2 x3;have xl:=ab hxb;have HBK:=hid (aB h.blk hAA);have c2:=aa HBK.out 2;simp only [List.getElem?_toArray,List.getElem?_cons_succ,List.getElem?_cons_zero] at c2;have z2:=ah HBK.out 2;have cl:=ab HBK.out;have HAA:=hid hAA;have HXB:=hid hxb;have hz4:(4:Int)≤((aj (bB pages x.f)).size:Int):=by rw [aw,eY];omega
 have hz5:4≤(aj (bB pages x.f)).size:=by rw [aw,eY];omega
 have HEX:=hid (uP pages x.f)
 have HUN:=hid (fun w1=>show Calls Tryz.prog 156 #[.string (aj (aG 4 pages))] w1 fun e w2=>e=.returned (.tuple #[.int .u64 pages,.int .i64 0])∧Below w1.heap.size w1 w2 from by
  have:=eF (aj (aG 4 pages)) w1 (by rw [aw,aq];omega) (by rw [aw,aq];omega);rw [aR,tO hp] at this;exact this)
 unfold ai cN iB bq at *;clear h hAA hxb;go_enter Tryz.func207,Tryz.ntmps207;go_upto_region 1 with fail
 try rw [hwA]
 clear hwA;by_cases hi:i=0
 ·subst hi;go_region;obtain ⟨w3,hw3⟩:∃ w3,wA.drew.setCell ⟨gf,2,none⟩ (.int .u64 salt)=w3:=⟨_,rfl⟩;have hc3:Ch (fun k=>k=gf) wA w3:=by rw [← hw3];exact ((Ch.refl (fun k=>k=gf) wA).drew).setCell (p:=⟨gf,2,none⟩) rfl _
  have hbk3:w3.heap[gf]?=some (iB (if 0<x.f then pages else 0) x.f salt (.slice Asu x.su.length csu) (.slice Alo x.lo.length clo)):=by rw [← hw3];exact ae (w:=wA.drew) HBK.out 2 (.int .u64 salt)
  have HX3:=hid (hc3.keep HXB.out (by omega));have HC3:=hid hc3;have HB3:=hid hbk3;go_upto_region 4 with fail
  try rw [hw3]
  clear x0 x1 x2 x3 xl c2 cl z2 hc3 hbk3 hw3;have x0:=aa HX3.out 0;have x3:=aa HX3.out 3;unfold bq at x0 x3;simp only [List.getElem?_toArray,List.getElem?_cons_succ,List.getElem?_cons_zero] at x0 x3;have xl:=ab HX3.out;rw [← HEX.out] at HUN;go_wp2_with fail;refine (HUN.out w3).mono ?_;rintro e w4 ⟨rfl,hb4⟩;have hwr:IntKind.i64.wrap (pages:Int)=pages:=by rw [IntKind.wrap_i64];omega
  obtain ⟨w5,hw5⟩:∃ w5,w4.alloc (.cells #[.int .i64 pages] 3)=w5:=⟨_,rfl⟩;have hA5:Below w3.heap.size w3 w5:=by rw [← hw5];exact hb4.alloc hb4.size _
  have hg5:w5.heap[w4.heap.size]?=some (.cells #[.int .i64 pages] 3 (0,0)):=by rw [← hw5];exact af rfl
  have HB5:=hid (aB HB3.out hA5);have HX5:=hid (aB HX3.out hA5);have HG5:=hid hg5;have HA5:=hid hA5;have hlo5:Own Pg.cells 2 134 b w5 (.slice Alo x.lo.length clo) (aV x.lo):=(((HH.out.lo.below HAA.out).ch HC3.out fun k hk e=>HH.out.nl (by rw [hk,e]))).below hA5;have hsu5:Own Pg.cells 2 134 b w5 (.slice Asu x.su.length csu) (aV x.su):=(((HH.out.su.below HAA.out).ch HC3.out fun k hk e=>HH.out.ns (by rw [hk,e]))).below hA5;have HLO5:=hid hlo5;have HSU5:=hid hsu5;clear hb4 hA5 hg5 hlo5 hsu5 x0 x3 xl;go_upto_region 12 with fail
  try rw [hw5]
  clear hw5;have g0:=aa HG5.out 0;simp only [List.getElem?_toArray,List.getElem?_cons_zero] at g0;have gl:=ab HG5.out;have b0:=aa HB5.out 0;have b1:=aa HB5.out 1;have b3:=aa HB5.out 3;have b4:=aa HB5.out 4;have x1:=aa HX5.out 1;have x3:=aa HX5.out 3;unfold iB at b0 b1 b3 b4;unfold bq at x1 x3;simp only [List.getElem?_toArray,List.getElem?_cons_succ,List.getElem?_cons_zero] at b0 b1 b3 b4 x1 x3;have bl:=ab HB5.out;have xl:=ab HX5.out;have HFO:=hid (fun (y:Up w5)=>lU pages x.f y.w hp (by omega));have HCO:=hid (fun (y:Up w5)=>ic pages w4.heap.size (.slice Alo x.lo.length clo) (aV x.lo) y.w ((HLO5.out.sl Pg.len).keep y.h) (by rw [bR];omega) ((y.cell _ _ gl).trans g0) (Nat.lt_of_lt_of_le gl y.h.size));rw [kM hlo] at HCO;have hb0n:x.f=0∨(if 0<x.f then pages else 0)=pages:=by
   by_cases hx:0<x.f
   ·exact .inr (if_pos hx)
   ·exact .inl (by omega)
  have hp2:¬ (pages:Int) > 4096:=by omega
  have hp3:decide ((pages:Int) > 4096)=false:=decide_eq_false hp2;by_cases hx:0<x.f
  ·have hx2:decide ((x.f:Int) > 0)=true:=decide_eq_true (by omega);rw [if_pos hx] at b0;refine am (by kernel_rfl) (by kernel_rfl) ?_;have f0:=ay g0 gl;have fb0:=ay b0 bl;have fb1:=ay b1 bl;have fb4:=ay b4 bl;have fx1:=ay x1 xl;have fx3:=ay x3 xl;clear b3
   repeat (go_big_quiet_step (first
    | (go_at_call 223;(with_reducible exact cF (HFO.out _)))
    | (go_at_call 248;(with_reducible exact cF (HCO.out _)))))
   refine wpQuiet_nil ?_;rintro w6 ⟨⟨_,hb6⟩,rfl⟩;have HB6:=hid (aB HB5.out hb6);have HG6:=hid (aB HG5.out hb6);have HBW:=hid hb6;clear hb6 g0 gl b0 b1 b4 x1 x3 bl xl f0 fb0 fb1 fb4 fx1 fx3 HFO HCO;have g0:=aa HG6.out 0;simp only [List.getElem?_toArray,List.getElem?_cons_zero] at g0;have gl:=ab HG6.out;have b0:=aa HB6.out 0;have b1:=aa HB6.out 1;unfold iB at b0 b1;simp only [List.getElem?_toArray,List.getElem?_cons_succ,List.getElem?_cons_zero] at b0 b1;have bl:=ab HB6.out;have z0:=ah HB6.out 0;have z1:=ah HB6.out 1;obtain ⟨w7,hw7⟩:∃ w7,(w6.setCell ⟨gf,0,none⟩ (.int .i64 pages)).setCell ⟨gf,1,none⟩ (.int .i64 ((x.f:Int)+1))=w7:=⟨_,rfl⟩;have hwf:IntKind.i64.wrap ((x.f:Int)+1)=(x.f:Int)+1:=by rw [IntKind.wrap_i64];omega
   have hc7:Ch (fun k=>k=gf) w6 w7:=by rw [← hw7];exact ((Ch.refl (fun k=>k=gf) w6).setCell (p:=⟨gf,0,none⟩) rfl _).setCell (p:=⟨gf,1,none⟩) rfl _
   have hb7:w7.heap[gf]?=some (iB pages (x.f+1) salt (.slice Asu x.su.length csu) (.slice Alo x.lo.length clo)):=by
    rw [← hw7];have:=ae (ae HB6.out 0 (.int .i64 pages)) 1 (.int .i64 ((x.f:Int)+1));unfold iB
    push_cast
    exact this
   have HC7:=hid hc7;have HB7:=hid hb7;go_upto_region 16 with fail
   try rw [hw7]
   clear hw7 hc7 hb7 g0 gl b0 b1 bl z0 z1 hwf;have hsu7:Own Pg.cells 2 134 b w7 (.slice Asu x.su.length csu) (aV x.su):=(HSU5.out.below HBW.out).ch HC7.out fun k hk e=>HH.out.ns (by rw [hk,e])
   have hlo7:Own Pg.cells 2 134 b w7 (.slice Alo x.lo.length clo) (aV x.lo):=(HLO5.out.below HBW.out).ch HC7.out fun k hk e=>HH.out.nl (by rw [hk,e])
   have hsz7:w.heap.size≤w7.heap.size:=Nat.le_trans HAA.out.size (Nat.le_trans HC3.out.size (Nat.le_trans HA5.out.size (Nat.le_trans HBW.out.size HC7.out.size)));obtain ⟨v',w8,hr',ho,hc8,hat⟩:=iH hsu7 (hlo7.sl Pg.len) (by rw [bR,bR];omega) (by omega);have hb8:=hc8.keep HB7.out (fun e=>HH.out.ns e);have b3:=aa HB7.out 3;have b4:=aa HB7.out 4;have bl:=ab HB7.out;have d3:=aa hb8 3;have d4:=aa hb8 4;unfold iB at b3 b4 d3 d4;simp only [List.getElem?_toArray,List.getElem?_cons_succ,List.getElem?_cons_zero] at b3 b4 d3 d4;have dl:=ab hb8;have y3:=ah hb8 3;have y4:=ah hb8 4;have HF:=hid (show pm w b gf pages salt (x.go none) (0+1) ((w8.setCell ⟨gf,3,none⟩ v').setCell ⟨gf,4,none⟩ (.slice none 0 0)) from by
    have hcS:Ch (fun k=>k=gf) w8 ((w8.setCell ⟨gf,3,none⟩ v').setCell ⟨gf,4,none⟩ (.slice none 0 0)):=((Ch.refl (fun k=>k=gf) w8).setCell (p:=⟨gf,3,none⟩) rfl _).setCell (p:=⟨gf,4,none⟩) rfl _
    have hv'g:∀ k,v'.ownBlock=some k→k≠gf:=fun k hk e=>by
     rcases hat k hk with h | h
     ·exact HH.out.ns (by rw [h,e])
     ·omega
    have hbg:=HH.out.bg;refine ⟨v',.slice none 0 0,⟨?_,?_,Own.nil,fun e=>hv'g gf e rfl,fun e=>(by cases e),fun k _ e=>(by cases e),hbg⟩,?_⟩
    ·have:=ae (ae hb8 3 v') 4 (.slice none 0 0);rw [if_pos (Nat.succ_pos _),if_pos (show 0<(x.go none).f from Nat.succ_pos _)];exact this
    ·have e:aV (x.go none).su=aV x.su ++ aV x.lo:=by show aV (x.su ++ x.lo)=_;unfold aV;rw [List.map_append]
     rw [e];exact ho.ch hcS fun k hk e=>hv'g k hk e
    ·exact ((((((Ch.of_below HAA.out:Ch (fun k=>b≤k) w wA).then HC3.out fun k e=>.inl (by omega)).trans (Ch.of_below HA5.out)).trans (Ch.of_below HBW.out)).then HC7.out fun k e=>.inl (by omega)).then hc8 fun k e=>.inl (HSU5.out.lt k e).1).then hcS fun k e=>.inl (by omega))
   obtain ⟨A',cv',rfl,-⟩:=aD ho;rw [List.length_append] at HF hr';clear hsu7 hlo7 ho hc8 hat hb8 hsz7;go_region;go_wp2_with fail;go_ret;exact ⟨rfl,HF.out⟩
  ·have hx2:decide ((x.f:Int) > 0)=false:=decide_eq_false (by omega);refine am (by kernel_rfl) (by kernel_rfl) ?_;have f0:=ay g0 gl;have fb0:=ay b0 bl;have fb1:=ay b1 bl;have fb4:=ay b4 bl;have fx1:=ay x1 xl;have fx3:=ay x3 xl;clear b3
   repeat (go_big_quiet_step (first
    | (go_at_call 223;(with_reducible exact cF (HFO.out _)))
    | (go_at_call 248;(with_reducible exact cF (HCO.out _)))))
   refine wpQuiet_nil ?_;rintro w6 ⟨⟨_,hb6⟩,rfl⟩;have HB6:=hid (aB HB5.out hb6);have HG6:=hid (aB HG5.out hb6);have HBW:=hid hb6;clear hb6 g0 gl b0 b1 b4 x1 x3 bl xl f0 fb0 fb1 fb4 fx1 fx3 HFO HCO;have g0:=aa HG6.out 0;simp only [List.getElem?_toArray,List.getElem?_cons_zero] at g0;have gl:=ab HG6.out;have b0:=aa HB6.out 0;have b1:=aa HB6.out 1;unfold iB at b0 b1;simp only [List.getElem?_toArray,List.getElem?_cons_succ,List.getElem?_cons_zero] at b0 b1;have bl:=ab HB6.out;have z0:=ah HB6.out 0;have z1:=ah HB6.out 1;obtain ⟨w7,hw7⟩:∃ w7,(w6.setCell ⟨gf,0,none⟩ (.int .i64 pages)).setCell ⟨gf,1,none⟩ (.int .i64 ((x.f:Int)+1))=w7:=⟨_,rfl⟩;have hwf:IntKind.i64.wrap ((x.f:Int)+1)=(x.f:Int)+1:=by rw [IntKind.wrap_i64];omega
   have hc7:Ch (fun k=>k=gf) w6 w7:=by rw [← hw7];exact ((Ch.refl (fun k=>k=gf) w6).setCell (p:=⟨gf,0,none⟩) rfl _).setCell (p:=⟨gf,1,none⟩) rfl _
   have hb7:w7.heap[gf]?=some (iB pages (x.f+1) salt (.slice Asu x.su.length csu) (.slice Alo x.lo.length clo)):=by
    rw [← hw7];have:=ae (ae HB6.out 0 (.int .i64 pages)) 1 (.int .i64 ((x.f:Int)+1));unfold iB
    push_cast
    exact this
   have HC7:=hid hc7;have HB7:=hid hb7;go_upto_region 16 with fail
   try rw [hw7]
   clear hw7 hc7 hb7 g0 gl b0 b1 bl z0 z1 hwf;have hsu7:Own Pg.cells 2 134 b w7 (.slice Asu x.su.length csu) (aV x.su):=(HSU5.out.below HBW.out).ch HC7.out fun k hk e=>HH.out.ns (by rw [hk,e])
   have hlo7:Own Pg.cells 2 134 b w7 (.slice Alo x.lo.length clo) (aV x.lo):=(HLO5.out.below HBW.out).ch HC7.out fun k hk e=>HH.out.nl (by rw [hk,e])
   have hsz7:w.heap.size≤w7.heap.size:=Nat.le_trans HAA.out.size (Nat.le_trans HC3.out.size (Nat.le_trans HA5.out.size (Nat.le_trans HBW.out.size HC7.out.size)));obtain ⟨v',w8,hr',ho,hc8,hat⟩:=iH hsu7 (hlo7.sl Pg.len) (by rw [bR,bR];omega) (by omega);have hb8:=hc8.keep HB7.out (fun e=>HH.out.ns e);have b3:=aa HB7.out 3;have b4:=aa HB7.out 4;have bl:=ab HB7.out;have d3:=aa hb8 3;have d4:=aa hb8 4;unfold iB at b3 b4 d3 d4;simp only [List.getElem?_toArray,List.getElem?_cons_succ,List.getElem?_cons_zero] at b3 b4 d3 d4;have dl:=ab hb8;have y3:=ah hb8 3;have y4:=ah hb8 4;have HF:=hid (show pm w b gf pages salt (x.go none) (0+1) ((w8.setCell ⟨gf,3,none⟩ v').setCell ⟨gf,4,none⟩ (.slice none 0 0)) from by
    have hcS:Ch (fun k=>k=gf) w8 ((w8.setCell ⟨gf,3,none⟩ v').setCell ⟨gf,4,none⟩ (.slice none 0 0)):=((Ch.refl (fun k=>k=gf) w8).setCell (p:=⟨gf,3,none⟩) rfl _).setCell (p:=⟨gf,4,none⟩) rfl _
    have hv'g:∀ k,v'.ownBlock=some k→k≠gf:=fun k hk e=>by
     rcases hat k hk with h | h
     ·exact HH.out.ns (by rw [h,e])
     ·omega
    have hbg:=HH.out.bg;refine ⟨v',.slice none 0 0,⟨?_,?_,Own.nil,fun e=>hv'g gf e rfl,fun e=>(by cases e),fun k _ e=>(by cases e),hbg⟩,?_⟩
    ·have:=ae (ae hb8 3 v') 4 (.slice none 0 0);rw [if_pos (Nat.succ_pos _),if_pos (show 0<(x.go none).f from Nat.succ_pos _)];exact this
    ·have e:aV (x.go none).su=aV x.su ++ aV x.lo:=by show aV (x.su ++ x.lo)=_;unfold aV;rw [List.map_append]
     rw [e];exact ho.ch hcS fun k hk e=>hv'g k hk e
    ·exact ((((((Ch.of_below HAA.out:Ch (fun k=>b≤k) w wA).then HC3.out fun k e=>.inl (by omega)).trans (Ch.of_below HA5.out)).trans (Ch.of_below HBW.out)).then HC7.out fun k e=>.inl (by omega)).then hc8 fun k e=>.inl (HSU5.out.lt k e).1).then hcS fun k e=>.inl (by omega))
   obtain ⟨A',cv',rfl,-⟩:=aD ho;rw [List.length_append] at HF hr';clear hsu7 hlo7 ho hc8 hat hb8 hsz7;go_region;go_wp2_with fail;go_ret;exact ⟨rfl,HF.out⟩
 ·have hi2:decide (i=0)=false:=decide_eq_false hi;have hs1:(if 0<i then salt else 0)=salt:=if_pos (by omega);rw [hs1] at c2;go_region;obtain ⟨w3,hw3⟩:∃ w3,wA.drew.setCell ⟨gf,2,none⟩ (.int .u64 salt)=w3:=⟨_,rfl⟩;have hc3:Ch (fun k=>k=gf) wA w3:=by rw [← hw3];exact ((Ch.refl (fun k=>k=gf) wA).drew).setCell (p:=⟨gf,2,none⟩) rfl _
  have hbk3:w3.heap[gf]?=some (iB (if 0<x.f then pages else 0) x.f salt (.slice Asu x.su.length csu) (.slice Alo x.lo.length clo)):=by rw [← hw3];exact ae (w:=wA.drew) HBK.out 2 (.int .u64 salt)
  have HX3:=hid (hc3.keep HXB.out (by omega));have HC3:=hid hc3;have HB3:=hid hbk3;go_upto_region 4 with fail
  try rw [hw3]
  clear x0 x1 x2 x3 xl c2 cl z2 hc3 hbk3 hw3;have x0:=aa HX3.out 0;have x3:=aa HX3.out 3;unfold bq at x0 x3;simp only [List.getElem?_toArray,List.getElem?_cons_succ,List.getElem?_cons_zero] at x0 x3;have xl:=ab HX3.out;rw [← HEX.out] at HUN;go_wp2_with fail;refine (HUN.out w3).mono ?_;rintro e w4 ⟨rfl,hb4⟩;have hwr:IntKind.i64.wrap (pages:Int)=pages:=by rw [IntKind.wrap_i64];omega
  obtain ⟨w5,hw5⟩:∃ w5,w4.alloc (.cells #[.int .i64 pages] 3)=w5:=⟨_,rfl⟩;have hA5:Below w3.heap.size w3 w5:=by rw [← hw5];exact hb4.alloc hb4.size _
  have hg5:w5.heap[w4.heap.size]?=some (.cells #[.int .i64 pages] 3 (0,0)):=by rw [← hw5];exact af rfl
  have HB5:=hid (aB HB3.out hA5);have HX5:=hid (aB HX3.out hA5);have HG5:=hid hg5;have HA5:=hid hA5;have hlo5:Own Pg.cells 2 134 b w5 (.slice Alo x.lo.length clo) (aV x.lo):=(((HH.out.lo.below HAA.out).ch HC3.out fun k hk e=>HH.out.nl (by rw [hk,e]))).below hA5;have hsu5:Own Pg.cells 2 134 b w5 (.slice Asu x.su.length csu) (aV x.su):=(((HH.out.su.below HAA.out).ch HC3.out fun k hk e=>HH.out.ns (by rw [hk,e]))).below hA5;have HLO5:=hid hlo5;have HSU5:=hid hsu5;clear hb4 hA5 hg5 hlo5 hsu5 x0 x3 xl;go_upto_region 12 with fail
  try rw [hw5]
  clear hw5;have g0:=aa HG5.out 0;simp only [List.getElem?_toArray,List.getElem?_cons_zero] at g0;have gl:=ab HG5.out;have b0:=aa HB5.out 0;have b1:=aa HB5.out 1;have b3:=aa HB5.out 3;have b4:=aa HB5.out 4;have x1:=aa HX5.out 1;have x3:=aa HX5.out 3;unfold iB at b0 b1 b3 b4;unfold bq at x1 x3;simp only [List.getElem?_toArray,List.getElem?_cons_succ,List.getElem?_cons_zero] at b0 b1 b3 b4 x1 x3;have bl:=ab HB5.out;have xl:=ab HX5.out;have HFO:=hid (fun (y:Up w5)=>lU pages x.f y.w hp (by omega));have HCO:=hid (fun (y:Up w5)=>ic pages w4.heap.size (.slice Alo x.lo.length clo) (aV x.lo) y.w ((HLO5.out.sl Pg.len).keep y.h) (by rw [bR];omega) ((y.cell _ _ gl).trans g0) (Nat.lt_of_lt_of_le gl y.h.size));rw [kM hlo] at HCO;have hb0n:x.f=0∨(if 0<x.f then pages else 0)=pages:=by
   by_cases hx:0<x.f
   ·exact .inr (if_pos hx)
   ·exact .inl (by omega)
  have hp2:¬ (pages:Int) > 4096:=by omega
  have hp3:decide ((pages:Int) > 4096)=false:=decide_eq_false hp2;by_cases hx:0<x.f
  ·have hx2:decide ((x.f:Int) > 0)=true:=decide_eq_true (by omega);rw [if_pos hx] at b0;refine am (by kernel_rfl) (by kernel_rfl) ?_;have f0:=ay g0 gl;have fb0:=ay b0 bl;have fb1:=ay b1 bl;have fb4:=ay b4 bl;have fx1:=ay x1 xl;have fx3:=ay x3 xl;clear b3
   repeat (go_big_quiet_step (first
    | (go_at_call 223;(with_reducible exact cF (HFO.out _)))
    | (go_at_call 248;(with_reducible exact cF (HCO.out _)))))
   refine wpQuiet_nil ?_;rintro w6 ⟨⟨_,hb6⟩,rfl⟩;have HB6:=hid (aB HB5.out hb6);have HG6:=hid (aB HG5.out hb6);have HBW:=hid hb6;clear hb6 g0 gl b0 b1 b4 x1 x3 bl xl f0 fb0 fb1 fb4 fx1 fx3 HFO HCO;have g0:=aa HG6.out 0;simp only [List.getElem?_toArray,List.getElem?_cons_zero] at g0;have gl:=ab HG6.out;have b0:=aa HB6.out 0;have b1:=aa HB6.out 1;unfold iB at b0 b1;simp only [List.getElem?_toArray,List.getElem?_cons_succ,List.getElem?_cons_zero] at b0 b1;have bl:=ab HB6.out;have z0:=ah HB6.out 0;have z1:=ah HB6.out 1;obtain ⟨w7,hw7⟩:∃ w7,(w6.setCell ⟨gf,0,none⟩ (.int .i64 pages)).setCell ⟨gf,1,none⟩ (.int .i64 ((x.f:Int)+1))=w7:=⟨_,rfl⟩;have hwf:IntKind.i64.wrap ((x.f:Int)+1)=(x.f:Int)+1:=by rw [IntKind.wrap_i64];omega
   have hc7:Ch (fun k=>k=gf) w6 w7:=by rw [← hw7];exact ((Ch.refl (fun k=>k=gf) w6).setCell (p:=⟨gf,0,none⟩) rfl _).setCell (p:=⟨gf,1,none⟩) rfl _
   have hb7:w7.heap[gf]?=some (iB pages (x.f+1) salt (.slice Asu x.su.length csu) (.slice Alo x.lo.length clo)):=by
    rw [← hw7];have:=ae (ae HB6.out 0 (.int .i64 pages)) 1 (.int .i64 ((x.f:Int)+1));unfold iB
    push_cast
    exact this
   have HC7:=hid hc7;have HB7:=hid hb7;go_upto_region 16 with fail
   try rw [hw7]
   clear hw7 hc7 hb7 g0 gl b0 b1 bl z0 z1 hwf;have hsu7:Own Pg.cells 2 134 b w7 (.slice Asu x.su.length csu) (aV x.su):=(HSU5.out.below HBW.out).ch HC7.out fun k hk e=>HH.out.ns (by rw [hk,e])
   have hlo7:Own Pg.cells 2 134 b w7 (.slice Alo x.lo.length clo) (aV x.lo):=(HLO5.out.below HBW.out).ch HC7.out fun k hk e=>HH.out.nl (by rw [hk,e])
   have hsz7:w.heap.size≤w7.heap.size:=Nat.le_trans HAA.out.size (Nat.le_trans HC3.out.size (Nat.le_trans HA5.out.size (Nat.le_trans HBW.out.size HC7.out.size)));obtain ⟨v',w8,hr',ho,hc8,hat⟩:=iH hsu7 (hlo7.sl Pg.len) (by rw [bR,bR];omega) (by omega);have hb8:=hc8.keep HB7.out (fun e=>HH.out.ns e);have b3:=aa HB7.out 3;have b4:=aa HB7.out 4;have bl:=ab HB7.out;have d3:=aa hb8 3;have d4:=aa hb8 4;unfold iB at b3 b4 d3 d4;simp only [List.getElem?_toArray,List.getElem?_cons_succ,List.getElem?_cons_zero] at b3 b4 d3 d4;have dl:=ab hb8;have y3:=ah hb8 3;have y4:=ah hb8 4;have HF:=hid (show pm w b gf pages salt (x.go none) (i+1) ((w8.setCell ⟨gf,3,none⟩ v').setCell ⟨gf,4,none⟩ (.slice none 0 0)) from by
    have hcS:Ch (fun k=>k=gf) w8 ((w8.setCell ⟨gf,3,none⟩ v').setCell ⟨gf,4,none⟩ (.slice none 0 0)):=((Ch.refl (fun k=>k=gf) w8).setCell (p:=⟨gf,3,none⟩) rfl _).setCell (p:=⟨gf,4,none⟩) rfl _
    have hv'g:∀ k,v'.ownBlock=some k→k≠gf:=fun k hk e=>by
     rcases hat k hk with h | h
     ·exact HH.out.ns (by rw [h,e])
     ·omega
    have hbg:=HH.out.bg;refine ⟨v',.slice none 0 0,⟨?_,?_,Own.nil,fun e=>hv'g gf e rfl,fun e=>(by cases e),fun k _ e=>(by cases e),hbg⟩,?_⟩
    ·have:=ae (ae hb8 3 v') 4 (.slice none 0 0);rw [if_pos (Nat.succ_pos _),if_pos (show 0<(x.go none).f from Nat.succ_pos _)];exact this
    ·have e:aV (x.go none).su=aV x.su ++ aV x.lo:=by show aV (x.su ++ x.lo)=_;unfold aV;rw [List.map_append]
     rw [e];exact ho.ch hcS fun k hk e=>hv'g k hk e
    ·exact ((((((Ch.of_below HAA.out:Ch (fun k=>b≤k) w wA).then HC3.out fun k e=>.inl (by omega)).trans (Ch.of_below HA5.out)).trans (Ch.of_below HBW.out)).then HC7.out fun k e=>.inl (by omega)).then hc8 fun k e=>.inl (HSU5.out.lt k e).1).then hcS fun k e=>.inl (by omega))
   obtain ⟨A',cv',rfl,-⟩:=aD ho;rw [List.length_append] at HF hr';clear hsu7 hlo7 ho hc8 hat hb8 hsz7;go_region;go_wp2_with fail;go_ret;exact ⟨rfl,HF.out⟩
  ·have hx2:decide ((x.f:Int) > 0)=false:=decide_eq_false (by omega);refine am (by kernel_rfl) (by kernel_rfl) ?_;have f0:=ay g0 gl;have fb0:=ay b0 bl;have fb1:=ay b1 bl;have fb4:=ay b4 bl;have fx1:=ay x1 xl;have fx3:=ay x3 xl;clear b3
   repeat (go_big_quiet_step (first
    | (go_at_call 223;(with_reducible exact cF (HFO.out _)))
    | (go_at_call 248;(with_reducible exact cF (HCO.out _)))))
   refine wpQuiet_nil ?_;rintro w6 ⟨⟨_,hb6⟩,rfl⟩;have HB6:=hid (aB HB5.out hb6);have HG6:=hid (aB HG5.out hb6);have HBW:=hid hb6;clear hb6 g0 gl b0 b1 b4 x1 x3 bl xl f0 fb0 fb1 fb4 fx1 fx3 HFO HCO;have g0:=aa HG6.out 0;simp only [List.getElem?_toArray,List.getElem?_cons_zero] at g0;have gl:=ab HG6.out;have b0:=aa HB6.out 0;have b1:=aa HB6.out 1;unfold iB at b0 b1;simp only [List.getElem?_toArray,List.getElem?_cons_succ,List.getElem?_cons_zero] at b0 b1;have bl:=ab HB6.out;have z0:=ah HB6.out 0;have z1:=ah HB6.out 1;obtain ⟨w7,hw7⟩:∃ w7,(w6.setCell ⟨gf,0,none⟩ (.int .i64 pages)).setCell ⟨gf,1,none⟩ (.int .i64 ((x.f:Int)+1))=w7:=⟨_,rfl⟩;have hwf:IntKind.i64.wrap ((x.f:Int)+1)=(x.f:Int)+1:=by rw [IntKind.wrap_i64];omega
   have hc7:Ch (fun k=>k=gf) w6 w7:=by rw [← hw7];exact ((Ch.refl (fun k=>k=gf) w6).setCell (p:=⟨gf,0,none⟩) rfl _).setCell (p:=⟨gf,1,none⟩) rfl _
   have hb7:w7.heap[gf]?=some (iB pages (x.f+1) salt (.slice Asu x.su.length csu) (.slice Alo x.lo.length clo)):=by
    rw [← hw7];have:=ae (ae HB6.out 0 (.int .i64 pages)) 1 (.int .i64 ((x.f:Int)+1));unfold iB
    push_cast
    exact this
   have HC7:=hid hc7;have HB7:=hid hb7;go_upto_region 16 with fail
   try rw [hw7]
   clear hw7 hc7 hb7 g0 gl b0 b1 bl z0 z1 hwf;have hsu7:Own Pg.cells 2 134 b w7 (.slice Asu x.su.length csu) (aV x.su):=(HSU5.out.below HBW.out).ch HC7.out fun k hk e=>HH.out.ns (by rw [hk,e])
   have hlo7:Own Pg.cells 2 134 b w7 (.slice Alo x.lo.length clo) (aV x.lo):=(HLO5.out.below HBW.out).ch HC7.out fun k hk e=>HH.out.nl (by rw [hk,e])
   have hsz7:w.heap.size≤w7.heap.size:=Nat.le_trans HAA.out.size (Nat.le_trans HC3.out.size (Nat.le_trans HA5.out.size (Nat.le_trans HBW.out.size HC7.out.size)));obtain ⟨v',w8,hr',ho,hc8,hat⟩:=iH hsu7 (hlo7.sl Pg.len) (by rw [bR,bR];omega) (by omega);have hb8:=hc8.keep HB7.out (fun e=>HH.out.ns e);have b3:=aa HB7.out 3;have b4:=aa HB7.out 4;have bl:=ab HB7.out;have d3:=aa hb8 3;have d4:=aa hb8 4;unfold iB at b3 b4 d3 d4;simp only [List.getElem?_toArray,List.getElem?_cons_succ,List.getElem?_cons_zero] at b3 b4 d3 d4;have dl:=ab hb8;have y3:=ah hb8 3;have y4:=ah hb8 4;have HF:=hid (show pm w b gf pages salt (x.go none) (i+1) ((w8.setCell ⟨gf,3,none⟩ v').setCell ⟨gf,4,none⟩ (.slice none 0 0)) from by
    have hcS:Ch (fun k=>k=gf) w8 ((w8.setCell ⟨gf,3,none⟩ v').setCell ⟨gf,4,none⟩ (.slice none 0 0)):=((Ch.refl (fun k=>k=gf) w8).setCell (p:=⟨gf,3,none⟩) rfl _).setCell (p:=⟨gf,4,none⟩) rfl _
    have hv'g:∀ k,v'.ownBlock=some k→k≠gf:=fun k hk e=>by
     rcases hat k hk with h | h
     ·exact HH.out.ns (by rw [h,e])
     ·omega
    have hbg:=HH.out.bg;refine ⟨v',.slice none 0 0,⟨?_,?_,Own.nil,fun e=>hv'g gf e rfl,fun e=>(by cases e),fun k _ e=>(by cases e),hbg⟩,?_⟩
    ·have:=ae (ae hb8 3 v') 4 (.slice none 0 0);rw [if_pos (Nat.succ_pos _),if_pos (show 0<(x.go none).f from Nat.succ_pos _)];exact this
    ·have e:aV (x.go none).su=aV x.su ++ aV x.lo:=by show aV (x.su ++ x.lo)=_;unfold aV;rw [List.map_append]
     rw [e];exact ho.ch hcS fun k hk e=>hv'g k hk e
    ·exact ((((((Ch.of_below HAA.out:Ch (fun k=>b≤k) w wA).then HC3.out fun k e=>.inl (by omega)).trans (Ch.of_below HA5.out)).trans (Ch.of_below HBW.out)).then HC7.out fun k e=>.inl (by omega)).then hc8 fun k e=>.inl (HSU5.out.lt k e).1).then hcS fun k e=>.inl (by omega))
   obtain ⟨A',cv',rfl,-⟩:=aD ho;rw [List.length_append] at HF hr';clear hsu7 hlo7 ho hc8 hat hb8 hsz7;go_region;go_wp2_with fail;go_ret;exact ⟨rfl,HF.out⟩
end Go.Proofs.YtdmhbgpejppbkaaGreat
namespace Go.Proofs.YtdmhbgpejppbkaaGreat
open Go.Lib (hid)
open Go.RowKit Go.Maps
theorem oS:∀ (l:List It) (r:Nat × By),r ∈ (aW l).all→some r ∈ l:=fun l r=>by
 refine cM (p:=fun l=>r ∈ (aW l).all→some r ∈ l) (fun h=>absurd h List.not_mem_nil) (fun l i ih h=>?_) l;rw [cO] at h;rw [List.mem_append];cases i with
 | some q=>
   have h2:r ∈ (aW l).su ++ ((aW l).lo ++ [q]):=h;rw [← List.append_assoc,List.mem_append,List.mem_singleton] at h2;rcases h2 with h2 | rfl
   ·exact .inl (ih h2)
   ·exact .inr (by simp)
 | none=> have h2:r ∈ ((aW l).su ++ (aW l).lo) ++ []:=h;rw [List.append_nil] at h2;exact .inl (ih h2)
theorem ItOk.take {pages:Nat} {l:List It} (h:ItOk pages l) (k:Nat):ItOk pages (l.take k):=by refine ⟨fun r hr=>h.1 r (List.mem_of_mem_take hr),fun j hj=>?_⟩;have hjk:=cB hj;rw [List.length_take] at hjk;rw [List.getElem?_take_of_lt (by omega)] at hj;rw [List.take_take,Nat.min_eq_left (by omega)];exact h.2 j hj
theorem Aa {l:List It} {i:Nat} (h:i<l.length):aW (l.take (i+1))=(aW (l.take i)).go l[i]:=by rw [List.take_succ_eq_append_getElem h,cO]
structure FiR (w:World) (D:DkM) (d:Dk) (gf base salt:Nat) (its:List It) (i:Nat) (wr:World):Prop where
 fd:∃ vs vl,FdIs wr w.heap.size gf base salt (aW (its.take i)) i vs vl
 dk:DkIs wr D d
 ch:Ch D.F w wr
attribute [local go_sem ↓] fN
theorem uG (base salt:Nat) (its:List It) (w:World) {D:DkM} {d:Dk} (h:DkIs w D d) (hf:d.Fine) (hn:d.now aQ=gz salt base .zero its) (hh:d.has aQ=true) (hok:ItOk base its) (h4:base≤4096) (hsa:salt<18446744073709551616) (hl:its.length≤900):
  Calls Tryz.prog 149 #[ai D.gd] w fun e w'=>∃ vs,e=.returned (.tuple #[.int .i64 (if 0<(aW its).f then base else 0),vs,.bool (decide (0<(aW its).f)),.int .i64 0])∧Own Pg.cells 2 134 w.heap.size w' vs (aV (aW its).su)∧DkIs w' D d∧Ch D.F w w':=by
 obtain ⟨fj,hfj,hfn⟩:=ce hh;have hsz:d.size aQ=its.length:=by rw [vZ hh,hn,gS]
 have HSZ:=hid (fun w1 (hb:Below w.heap.size w w1)=>bp aQ (by decide) w1 (h.ch (Ch.of_below (S:=fun _=>False) hb) fun _ _ h=>h));rw [hsz] at HSZ;have HH:=hid h;have hDl:∀ k,D.F k→k<w.heap.size:=fun k hk=>h.lt hk
 have hg0:D.F D.gd:=.inl rfl;have HDL:=hid hDl;have HG0:=hid hg0;obtain ⟨w1,hw1⟩:∃ w1,w.alloc (.cells #[.int .i64 0,.int .i64 0,.int .u64 0,.slice none 0 0,.slice none 0 0] 243)=w1:=⟨_,rfl⟩;have hA1:Below w.heap.size w w1:=by rw [← hw1];exact (Below.refl _ w).alloc (Nat.le_refl _) _
 have hb1:w1.heap[w.heap.size]?=some (iB 0 0 0 (.slice none 0 0) (.slice none 0 0)):=by rw [← hw1];exact af rfl
 have H0:=hid (show FiR w D d w.heap.size base salt its 0 w1 from ⟨⟨.slice none 0 0,.slice none 0 0,⟨hb1,Own.nil,Own.nil,fun e=>(by cases e),fun e=>(by cases e),fun k e=>(by cases e),Nat.le_refl _⟩⟩,h.ch (Ch.of_below (S:=fun _=>False) hA1) (fun _ _ h=>h),Ch.of_below hA1⟩);have HA1:=hid hA1;have HOK:=hid hok
 have HRD:=hid (show ∀ (i:Nat) (hi:i<its.length) (wr:World),DkIs wr D d→Calls Tryz.prog 153 #[ai D.gd,cZ aQ,.int .i64 i] wr fun e w'=>e=.returned (.tuple #[.string (aj (sm salt base (aW (its.take i)) its[i])),.int .i64 0])∧DkIs w' D d∧Ch (fun k=>k=D.gd) wr w' from fun i hi wr hd=>by
  have:=kN aQ (by decide) (i:Int) wr hd
  obtain ⟨r1,r2⟩:=hf.rd (n:=aQ) (by decide) hfj (i:=i) (s:=sm salt base (aW (its.take i)) its[i]) (by
   rw [hfn,hn];exact np salt base its .zero i its[i] (List.getElem?_eq_getElem hi))
  rw [r1,r2,hf.s (by decide)] at this;exact this)
 have HST:=hid (show ∀ (i:Nat) (hi:i<its.length) (wr:World),Calls Tryz.prog 154 #[.string (aj (sm salt base (aW (its.take i)) its[i]))] wr fun e w'=>∃ k n b,k<100∧e=.returned (.tuple #[cN k n salt (aj b),.int .i64 0])∧Below wr.heap.size wr w'∧∀ (w2:World),(∃ vs vl,FdIs w2 w.heap.size w.heap.size base salt (aW (its.take i)) i vs vl)→Calls Tryz.prog 207 #[ai w.heap.size,cN k n salt (aj b),.bool ((i:Int) == 0)] w2 fun e w'=>e=.returned (.bool true)∧pm w2 w.heap.size w.heap.size base salt (aW (its.take (i+1))) (i+1) w' from fun i hi wr=>by
  have hmi:its[i] ∈ its:=List.getElem_mem hi;have hdz:((i:Int) == 0)=decide (i=0):=by
   by_cases h0:i=0
   ·subst h0;rfl
   ·rw [decide_eq_false h0];simp [h0]
  rw [hdz];have hup:=Aa hi;have hln:=lK (its.take i).length (its.take i) rfl (hok.take i);rw [List.length_take] at hln;cases hx:its[i] with
  | some r=> rw [hx] at hmi hup;obtain ⟨h1,h2⟩:=hok.1 r hmi;refine (kY 2 r.1 salt r.2 wr (by omega) (by omega) hsa h2).mono ?_;rintro e w' ⟨rfl,hb⟩;refine ⟨2,r.1,r.2,by omega,rfl,hb,fun w2 ⟨vs,vl,hfd⟩=>?_⟩;rw [hup];exact uV base salt r.1 i r.2 _ w2 hfd (by omega) (by omega)
  | none=>
    rw [hx] at hup;refine (kY 3 (aW (its.take i)).lo.length salt (bB base (aW (its.take i)).f) wr (by omega) (by omega) hsa (eY _ _)).mono ?_;rintro e w' ⟨rfl,hb⟩;refine ⟨3,_,_,by omega,rfl,hb,fun w2 ⟨vs,vl,hfd⟩=>?_⟩;rw [hup];refine uW base salt i _ w2 hfd h4 (by omega) (fun r hr=>?_) (by omega) (by omega);exact (hok.1 r (List.mem_of_mem_take (oS _ r (List.mem_append_right _ hr)))).1)
 unfold ai cZ at *;rw [jnS] at HSZ HRD;clear h hf hn hh hok hfj hfn hsz hDl hg0 hA1 hb1 hsa h4;go_enter Tryz.func149,Tryz.ntmps149;go_wp2_with fail;refine (HSZ.out w1 HA1.out).mono ?_;rintro e w2 ⟨rfl,rfl⟩;have hmx:max (its.length:Int) 0=its.length:=by omega
 go_wp2_with fail;go_loopw [18] (fun iv wr=>∃ i:Nat,i≤its.length∧iv=.int .i64 i∧FiR w D d w.heap.size base salt its i wr) (fun iv _=>its.length - (intOf iv).toNat)
 case atStart=>exact ⟨0,Nat.zero_le _,rfl,H0.out⟩
 case round=>
  obtain ⟨i,hi,rfl,hI⟩:=hrel;have HI:=hid hI;clear hI;by_cases hlt:i<its.length
  ·have hk0:(0:Int)≤(i:Int):=by omega
   have hk1:(i:Int)<(its.length:Int):=by omega
   have HK:=hid (And.intro hi hlt);have hl2:(i:Int)<1000:=by omega
   go_wp2_with fail;refine (HRD.out i hlt wr HI.out.dk).mono ?_;rintro e w3 ⟨rfl,hd3,hc3⟩;have HD3:=hid (And.intro hd3 hc3);clear hd3 hc3;go_wp2_with fail;refine (HST.out i hlt w3).mono ?_;rintro e w4 ⟨k,n,b,hk,rfl,hb4,hadd⟩;obtain ⟨w5,hw5⟩:∃ w5,w4.alloc (bq k n salt (aj b))=w5:=⟨_,rfl⟩;have hb5:Below w3.heap.size w3 w5:=by rw [← hw5];exact hb4.alloc hb4.size _
   have hx5:w5.heap[w4.heap.size]?=some (bq k n salt (aj b)):=by rw [← hw5];exact af rfl
   have x0:=aa hx5 0;have x1:=aa hx5 1;have x2:=aa hx5 2;have x3:=aa hx5 3;simp only [List.getElem?_toArray,List.getElem?_cons_succ,List.getElem?_cons_zero] at x0 x1 x2 x3;have xl:=ab hx5
   have HAD:=hid (show Calls Tryz.prog 207 #[ai w.heap.size,cN k n salt (aj b),.bool ((i:Int) == 0)] w5 fun e w'=>e=.returned (.bool true)∧FiR w D d w.heap.size base salt its (i+1) w' from by
    obtain ⟨vs,vl,hfd⟩:=HI.out.fd;have hbk3:=HD3.out.2.keep hfd.blk (fun e=>by have:=HDL.out _ HG0.out;omega);have hne:∀ v:Value,(∀ k,v.ownBlock=some k→w.heap.size≤k)→∀ k,v.ownBlock=some k→¬ k=D.gd:=fun v hv k hk e=>by have:=hv k hk;have:=HDL.out _ HG0.out;omega
    have hfd5:FdIs w5 w.heap.size w.heap.size base salt (aW (its.take i)) i vs vl:=⟨aB hbk3 hb5,(hfd.su.ch HD3.out.2 (hne _ fun k hk=>(hfd.su.lt k hk).1)).below hb5,(hfd.lo.ch HD3.out.2 (hne _ fun k hk=>(hfd.lo.lt k hk).1)).below hb5,hfd.ns,hfd.nl,hfd.dis,hfd.bg⟩;refine (hadd w5 ⟨vs,vl,hfd5⟩).mono ?_;rintro e w6 ⟨rfl,vs',vl',h6,hc6⟩;refine ⟨rfl,⟨vs',vl',h6⟩,(HD3.out.1.ch (Ch.of_below (S:=fun _=>False) hb5) (fun _ _ h=>h)).ch hc6 (fun k hk e=>by have:=HDL.out k hk;omega),?_⟩;exact (((HI.out.ch.then HD3.out.2 fun k e=>.inl (e ▸ HG0.out)).trans (Ch.of_below hb5)).then hc6 fun k e=>.inr e))
   unfold ai cN bq at *;clear hadd hb4 hb5 hx5;go_wp2_with fail;refine HAD.out.mono ?_;rintro e w6 ⟨rfl,h6⟩;have H6:=hid h6;clear h6 x0 x1 x2 x3 xl;go_wp2_with fail;go_roundw
   case rel=>exact ⟨i+1,by have:=HK.out;omega,by go_num,H6.out⟩
   case measure=>simp [intOf];omega
  ·obtain rfl:i=its.length:=by omega
   obtain ⟨vs,vl,hfd⟩:=HI.out.fd;rw [List.take_length] at hfd;have HFD:=hid hfd;have c0:=aa hfd.blk 0;have c1:=aa hfd.blk 1;have c3:=aa hfd.blk 3;simp only [List.getElem?_toArray,List.getElem?_cons_succ,List.getElem?_cons_zero] at c0 c1 c3;have cl:=ab hfd.blk;clear hfd hlt hi;go_wp2_with fail;go_region;have HE:=hid (show Own Pg.cells 2 134 w.heap.size wr.drew vs (aV (aW its).su)∧DkIs wr.drew D d∧Ch D.F w wr.drew from ⟨HFD.out.su.drew,HI.out.dk.ch (S:=fun _=>False) (Ch.drew (Ch.refl _ _)) (fun _ _ h=>h),HI.out.ch.drew⟩);go_wp2_with fail
   ·exact bodyPost_ret (v:=.tuple #[.int .i64 base,vs,.bool true,.int .i64 0]) (by simp [results,Tryz.results149,go_sem]) rfl ⟨vs,rfl,HE.out⟩
   ·exact bodyPost_ret (v:=.tuple #[.int .i64 0,vs,.bool false,.int .i64 0]) (by simp [results,Tryz.results149,go_sem]) rfl ⟨vs,rfl,HE.out⟩
end Go.Proofs.YtdmhbgpejppbkaaGreat
namespace Go.Proofs.YtdmhbgpejppbkaaGreat
open Go.Lib (hid)
open Go.RowKit Go.Maps Go.Shelf
def pS (x:Pg):Value:=.agg #[.int .i64 x.n,.string x.s]
def BI (zs:List Pg) (i:Fin zs.length):Array Value:=#[.int .i64 i.1,pS (zs[i.1]'i.2)]
structure BqAt (W:World) (A:Option Addr) (Bs b off cap:Nat) (zs:List Pg):Prop where
 box:W.cell? ⟨Bs,0,none⟩=some (.slice A zs.length cap)
 row:∀ (i:Nat) (hi:i<zs.length) (j:Nat) (u:Value),(Pg.cells zs[i])[j]?=some u→W.cell? ⟨b,off+i * 2+j,none⟩=some u
theorem yZ (F:Fence) (n:Nat) (h7:F.fn 249) (hro:F.round=none) (hn:1≤n) (l:Nat) (A:Option Addr) (Bs b off cap:Nat) (zs:List Pg) (hA:zs≠[]→A=some ⟨b,off,none⟩) (hlen:zs.length≤1000) (Kp:World→World→Prop) (hKt:∀ {A B C:World},Kp A B→Kp B C→Kp A C) (J Jx:List (Fin zs.length)→World→Prop)
  (hY:∀ pre x W,J pre W→pre.length<zs.length→YieldAt F (n - 1) Tryz.prog l (BI zs x) W fun e W'=>(e=.returned (.bool true)∧J (pre ++ [x]) W'∧Kp W W')∨(e=.returned (.bool false)∧Jx (pre ++ [x]) W'))
  (W:World) (hK0:Kp W W) (hat:∀ W',Kp W W'→BqAt W' A Bs b off cap zs) (h0:J [] W):
  CallsIn F n Tryz.prog 249 #[.func (.yield l) #[] #[],.pointer (some ⟨Bs,0,none⟩)] W fun e W'=>(∃ v,e=.returned v)∧((∃ ys,ys=mK zs.length zs.length (Nat.le_refl _)∧J ys W')∨(∃ pre,Jx pre W')):=by
 have HAT:=hid hat;have hbx:=(hat W hK0).box;have hwl:IntKind.i64.wrap ((zs.length:Int) - 1)=(zs.length:Int) - 1:=by rw [IntKind.wrap_i64];omega
 clear hat;refine callsIn_of_wp Tryz.func249 rfl h7 ?_ hro;simp only [Tryz.ntmps249,List.size_toArray,List.length_cons,List.length_nil,Nat.reduceAdd,Nat.reduceSub,Array.replicate_succ,Array.replicate_zero,List.push_toArray,List.append_toArray,List.nil_append,List.cons_append];gi_wp2;gi_loopw [3] (fun iv wr=>∃ (d:Nat) (hd:d≤zs.length),iv=.int .i64 ((zs.length:Int) - 1 - d)∧J (mK zs.length d hd) wr∧Kp W wr) (fun iv _=>(intOf iv+1).toNat)
 case atStart=>exact ⟨0,Nat.zero_le _,by simp,h0,hK0⟩
 case round=>
  obtain ⟨d,hd,rfl,hJs,hnx⟩:=hrel;by_cases hdl:d=zs.length
  ·subst hdl;have hiv:((zs.length:Int) - 1 - zs.length)=-1:=by omega
   rw [hiv];gi_wp2;go_end0;exact ⟨⟨_,rfl⟩,.inl ⟨_,rfl,hJs⟩⟩
  ·have hd1:d+1≤zs.length:=by omega
   obtain ⟨i,hi2⟩:∃ i,i=zs.length - (d+1):=⟨_,rfl⟩;have hi:i<zs.length:=by omega
   have hup:mK zs.length (d+1) hd1=mK zs.length d hd ++ [⟨i,hi⟩]:=by subst hi2;rfl
   obtain ⟨fn,tmps,assign,body,hy,hR⟩:=hY _ ⟨i,hi⟩ wr hJs (by rw [je];omega);have hat:=HAT.out wr hnx;have hbw:=hat.box;have hrow:=hat.row i hi;obtain rfl:=hA (fun e=>by rw [e] at hi;cases hi);have hiv:((zs.length:Int) - 1 - d)=(i:Int):=by omega
   have hiv2:(i:Int) - 1=((zs.length:Int) - 1 - ((d+1:Nat):Int)):=by omega
   have HI:=hid (And.intro hd1 (And.intro hi hiv2));rw [← hup] at hR;unfold BI at hy;simp only at hy;generalize zs[i]=x at *;have e0:wr.cell? ⟨b,off+i * 2,none⟩=some (.int .i64 x.n):=hrow 0 _ rfl;have e1:wr.cell? ⟨b,off+i * 2+1,none⟩=some (.string x.s):=hrow 1 _ rfl;have hi0:(0:Int)≤(i:Int):=by omega
   have hi1:(i:Int)<(zs.length:Int):=by omega
   have hwi:IntKind.i64.wrap ((i:Int) - 1)=(i:Int) - 1:=by rw [IntKind.wrap_i64];omega
   rw [hiv];unfold pS at hy;clear hrow hat hJs hup hi2 hiv2 hiv hdl;gi_wp2;refine hR.mono ?_;rintro e W3 (⟨rfl,hJ3,hk3⟩ | ⟨rfl,hJx3⟩)
   ·gi_wp2;go_roundw
    case rel=>exact ⟨d+1,HI.out.1,by rw [HI.out.2.2],hJ3,hKt hnx hk3⟩
    case measure=>simp [intOf]
   ·gi_wp2;refine bodyPost_ret (results_none rfl _ _ _) rfl ?_;exact ⟨⟨_,rfl⟩,.inr ⟨_,hJx3⟩⟩
theorem vj (F:Fence) (n:Nat) (h7:F.fn 249) (hro:F.round=none) (hn:1≤n) (A:Option Addr) (Bs n₀ b off cap:Nat) (zs:List Pg) (hA:zs≠[]→A=some ⟨b,off,none⟩) (hlen:zs.length≤1000) (w:World) (hb:zs≠[]→b<n₀) (hn0:n₀≤w.heap.size)
  (hbox:w.heap[Bs]?=some (.cells #[.slice A zs.length cap] 135 (0,0))) (hrow:∀ (i:Nat) (hi:i<zs.length) (j:Nat) (u:Value),(Pg.cells zs[i])[j]?=some u→w.cell? ⟨b,off+i * 2+j,none⟩=some u):
  SeqStopsK F n Tryz.prog 249 #[.pointer (some ⟨Bs,0,none⟩)] (BI zs) (BwK n₀ Bs) (fun ys=>ys=mK zs.length zs.length (Nat.le_refl _)) (fun _=>True) zs.length w:=fun l J Jx W hW _ _ hY h0=>
 (yZ F n h7 hro hn l A Bs b off cap zs hA hlen (BwK n₀ Bs) BwK.trans J Jx hY W ⟨Below.refl _ _,fun _ _ e=>e⟩ (fun W' hk=>⟨by
   have h1:W.heap[Bs]?=_:=(hW.block Bs (aO hbox)).trans hbox;have h2:=hk.2 _ _ h1;exact aa h2 0,fun i hi j u hu=>have hb:=hb (fun e=>by rw [e] at hi;cases hi);(hk.1.cell (p:=⟨b,off+i * 2+j,none⟩) hb).trans ((hW.cell (p:=⟨b,off+i * 2+j,none⟩) (by simp only;omega)).trans (hrow i hi j u hu))⟩) h0).mono fun _ _ ⟨h1,h2⟩=>⟨h1,h2.elim .inl fun ⟨p,hp⟩=>.inr ⟨p,trivial,hp⟩⟩
theorem yY (v:Value) (w:World) (hv:∃ A n c,v=.slice A n c):
  Calls Tryz.prog 208 #[v] w fun e w'=>e=.returned (.func (.func 249) #[] #[.pointer (some ⟨w.heap.size,0,none⟩)])∧w'=w.alloc (.cells #[v] 135):=by
 obtain ⟨A,n,c,rfl⟩:=hv;go_enter Tryz.func208,Tryz.ntmps208;go_wp2_with fail;go_ret;exact ⟨rfl,rfl⟩
end Go.Proofs.YtdmhbgpejppbkaaGreat
