/- tree: leaves. tree: Build: what stays while the heads are taken; groups counted. tree: Build. cahierref16: Read, the way that answers true: what stays while it goes on. TreeBuilds, plain: the pairs that are drawn up, those that can be; how much room they ask. TreeBuilds, plain: a shelf with one free page. -/
import Derived.Test.YtknioodagnjchaaGreatDoorBGs
import Derived.Test.YtknioodagnjchaaGreatDoorBGg
import Derived.Test.YtknioodagnjchaaGreatDoorBGi
import Derived.Test.YtknioodagnjchaaGreatDoorBGn
import Derived.Test.YtknioodagnjchaaGreatDoorBGr
import Derived.Test.YtknioodagnjchaaGreatDoorBGp
import Derived.Test.YtknioodagnjchaaGreatDoorBGq
import Derived.Test.YtknioodagnjchaaGreatDoorBGo
import Derived.Test.YtknioodagnjchaaGreatDoorBGl
import Derived.Deep.RegionHeld3
import Derived.Deep.Cut
import Derived.Deep.LoopGhost
set_option maxRecDepth 100000
set_option maxHeartbeats 8000000
namespace Go.Proofs.YtknioodagnjchaaGreatDoor
open List renaming setIfInBounds_toArray->Bt,length_singleton->Bv,getElem?_cons_succ->Bw,getElem?_cons_zero->Bx,getElem?_toArray->Bz,set_cons_zero->BA,set_cons_succ->BB,length_append->BC,map_append->BD,foldl_cons->BE,foldl_nil->BF,forall_mem_cons->BH,length_map->BJ,not_mem_nil->BL,getElem_mem->BN
open Go.Value renaming slice->BG
open Go.Act renaming put->BI
open And renaming intro->BK
open Nat renaming le_refl->BM
open Go.Lib renaming hid->Z
open Go.RowKit
theorem uA {w5:World} {base:Nat} {vk vc:Value} {ks:List By} {cs:List Ce} {x:By} {c:Ce} (hkl:∀ k,(vk.ownBlock=some k\/vc.ownBlock=some k)->k<w5.heap.size) (d:Nat->Bool) (v:Nat->Value) (w:World)
  (h:LfJ w5 base vk vc ks cs x c (d 6) (d 7) (d 13) (d 14) (d 15) (d 16) (d 17) (v 42) (v 43) (v 49) (v 50) (v 51) (v 12) w) (hd:d 17=false) (hp:∀ j ∈ [15,16],d j=true):
  ∃ (g:Nat) (cells old:Array Value) (t:TypeId),v 12=.pointer (some ⟨g,0,none⟩)/\v 51=.agg cells/\w.heap[g]?=some (.cells old t (0,0))/\cells.size=4/\old.size=4/\cells.all (·.oneCell')=true/\
    ((w.setRow g cells).heap[g]?=some (.cells cells t (0,0))->Ch (fun k=>k=g) w (w.setRow g cells)->LfJ w5 base vk vc ks cs x c ((fun j=>j == 17 || d j) 6) ((fun j=>j == 17 || d j) 7) ((fun j=>j == 17 || d j) 13) ((fun j=>j == 17 || d j) 14) ((fun j=>j == 17 || d j) 15) ((fun j=>j == 17 || d j) 16) ((fun j=>j == 17 || d j) 17) (v 42) (v 43) (v 49) (v 50) (v 51) (v 12) (w.setRow g cells)):=by
 rw [hp 15 (by simp),hp 16 (by simp),hd] at h;obtain ⟨g,cells,old,t,h1,h2,h3,h4,h5,h6,h7⟩:=h.last hkl;refine ⟨g,cells,old,t,h1,h2,h3,h4,h5,h6,fun k1 k2=>?_⟩;show LfJ w5 base vk vc ks cs x c (d 6) (d 7) (d 13) (d 14) (d 15) (d 16) true _ _ _ _ _ _ _;rw [hp 15 (by simp),hp 16 (by simp)];exact h7 k1 k2
theorem sk (ps:List Pr) (pv:Value) (gl:List (List (By × Ce))) (gs gm:Nat) (s s':Sf) (w:World) (hS:ShIs w gs gm s) (hp:Sl iX 2 w pv ps) (hpb:∀ k,pv.ownBlock=some k->k≠gs/\k≠gm) (hpl:ps.length<=1000) (hk:∀ p ∈ ps,p.1.length<=64) (hv:∀ p ∈ ps,p.2.length<=5000) (hrun:(ey ps [] []).run s=(s',.ok gl)):
  Calls Tryz.prog 96 #[co gs,pv] w fun e w'=>(∃ rs nv,e=.returned (.tuple #[nv,.int .i64 0])/\LfR w.heap.size w' nv rs/\rs.map (·.n)=gl.map aW)/\ShIs w' gs gm s'/\Ch (fun k=>k=gs\/k=gm) w w':=by
 obtain ⟨Ap,cp,rfl⟩:=Sl.zM hp;have HP:=Z hp;have HPB:=Z hpb;have HLV:=Z (BK hk hv);have HLT:=Z (show gs<w.heap.size/\gm<w.heap.size from ⟨aj hS.blk,hS.book.lt⟩);have HI0:=Z (show LfI w gs gm (.slice (some ⟨w.heap.size,0,none⟩) 1 1) [] [] [⟨aW [],none,0,none,0,none,0⟩] s 0 (w.alloc (.cells #[.bool true,.slice none 0 0,.slice none 0 0,.slice none 0 0] 110)) from
  ⟨rfl,⟨World.ownsRow_lit w #[.bool true,.slice none 0 0,.slice none 0 0,.slice none 0 0] 1 (BM _) (by simp [maxLen]) (by simp),
    fun r hr=>by rw [List.mem_singleton.1 hr];exact Own.nil,fun r hr=>by rw [List.mem_singleton.1 hr];exact Own.nil,fun r hr=>by rw [List.mem_singleton.1 hr];exact ⟨rfl,rfl,rfl⟩,fun r hr=>by rw [List.mem_singleton.1 hr];exact Dis.nil,
    fun r hr=>by rw [List.mem_singleton.1 hr];exact ⟨Dis.nil.symm,Dis.nil.symm⟩,List.pairwise_singleton _ _⟩,
    hS.ch (S:=fun _=>False) (Ch.zK ((Below.refl _ w).alloc (BM _) _)) id id,(Ch.refl _ w).alloc _,by simp,fun y hy=>by cases hy⟩)
 have HRUN:=Z hrun;clear hp hpb hk hv hS hrun;unfold co;go_enter Tryz.func96,Tryz.ntmps96;go_upto_region 2 with fail
 generalize w.alloc (.cells #[.bool true,.slice none 0 0,.slice none 0 0,.slice none 0 0] 110)=w1 at *;go_wp2_with fail;go_loopw [6,17] (fun av iv wr=>∃ (i:Nat) (done:List (List (By × Ce))) (cur:List (By × Ce)) (rs:List Nr) (s1:Sf),iv=.int .i64 i/\i<=ps.length/\(ey (ps.drop i) done cur).run s1=(s',.ok gl)/\LfI w gs gm av done cur rs s1 i wr) (fun _ iv _=>ps.length - (intOf iv).toNat)
 case atStart=>exact ⟨0,[],[],_,s,rfl,Nat.zero_le _,by rw [List.drop_zero];exact HRUN.out,HI0.out⟩
 case round=>
  clear HI0;obtain ⟨i,done,cur,rs,s1,rfl,hi,hrun,hI⟩:=hrel;have HI:=Z hI;have HRI:=Z hrun;obtain ⟨Ag,cg,rfl⟩:=Sl.zM (hI.r.o.sl cf);have hrl:rs.length=done.length+1:=by have:=congrArg List.length hI.ns;simpa using this
  have HCN:=Z hI.cnt;have HNS:=Z hrl;clear hI hrun hrl;by_cases hlt:i<ps.length
  ·have hpr:=de HP.out HI.out.ch fun k hk e=>by have:=HPB.out k hk;omega
   obtain ⟨bp,op,rfl,hbp,e0,e1⟩:=hpr.zW hlt;have hrun2:=HRI.out;rw [List.drop_eq_getElem_cons hlt] at hrun2;obtain ⟨c,hc,hrest⟩:=iq hrun2;have HC:=Z hc;have HCD:=Z (lF hc);have HRR:=Z hrest;have hkl:=HLV.out.1 ps[i] (BN hlt);have hvl:=HLV.out.2 ps[i] (BN hlt);have hi1:(i:Int)<(ps.length:Int):=by omega
   clear hpr hrun2 hc hrest;generalize ps[i]=x at *;obtain ⟨xk,xv⟩:=x;simp only at e0 e1 HC HRR HCD hkl hvl;have HX8:=Z (ag (w0:=wr) (g:=wr.heap.size) (o:=.cells #[.string (ap xk),.string (ap xv)] 62 (0,0)) rfl);have hb3:Below wr.heap.size wr (wr.alloc (.cells #[.string (ap xk),.string (ap xv)] 62)):=(Below.refl _ wr).alloc (BM _) _;have HR3:=Z (HI.out.r.below hb3);have HS3:=Z (HI.out.sh.ch (S:=fun _=>False) (Ch.zK hb3) id id);have HC3:=Z (HI.out.ch.alloc (.cells #[.string (ap xk),.string (ap xv)] 62));have hszr:=HI.out.ch.size;clear hb3;go_upto_region 5 with fail
   generalize wr.alloc (.cells #[.string (ap xk),.string (ap xv)] 62)=w3 at *;have m0:=ae HX8.out 0;have m1:=ae HX8.out 1;have m2:=aj HX8.out;simp at m0 m1;have HCL:=Z (nw xv gs gm s1 w3 HS3.out (by omega));rw [HC.out] at HCL;unfold co vi kF at HCL;simp only at HCL;clear e0 e1 hbp;go_wp2_with fail;refine HCL.out.mono ?_;rintro e w4 ⟨rfl,hs,hch⟩;have hlo:∀ k,(k=gs\/k=gm)->k<w.heap.size:=fun k hk=>by have:=HLT.out;omega
   have hb5:Below w4.heap.size w4 (w4.alloc (dj c)):=(Below.refl _ w4).alloc (BM _) _;have HS5:=Z (hs.ch (S:=fun _=>False) (Ch.zK hb5) id id);have HR5:=Z ((HR3.out.ch hch hlo).below hb5);have HC5:=Z ((HC3.out.trans hch).alloc (dj c));have HX5:=Z (af (hch.keep HX8.out fun e=>by have:=HLT.out;omega) hb5);have HX9:=Z (ag (w0:=w4) (g:=w4.heap.size) (o:=dj c) rfl);have hsz4:=hch.size;have hsz5:w4.heap.size<(w4.alloc (dj c)).heap.size:=by simp
   have hg89:wr.heap.size<w4.heap.size:=by omega
   clear m0 m1 m2 hs hch hb5 HCL HX8 HR3 HS3 HC3;go_upto_region 8 with fail
   generalize hw1:w4.alloc (.cells #[.int .i64 c.size,.string (ap c.data),.int .i64 c.page] 119)=w5 at *;have hw2:w4.alloc (dj c)=w5:=hw1;rw [hw2] at HS5 HR5 HC5 HX5 HX9 hsz5;clear hw1 hw2;obtain ⟨A,r,rfl⟩:∃ A r,rs=A ++ [r]:=⟨rs.dropLast,rs.getLast (by intro e;have:=HNS.out;rw [e] at this;simp at this),(List.dropLast_concat_getLast _).symm⟩;have hAl:A.length=done.length:=by have:=HNS.out;rw [BC,Bv] at this;omega
   have hrn:r.n=aW cur:=by have e:=HI.out.ns;rw [BD,BD (l₂:=[cur])] at e;exact List.head_eq_of_cons_eq (List.append_inj_right e (by rw [BJ,BJ];exact hAl))
   obtain ⟨ga,oa,rfl,hga,q0,q1,q2,q3⟩:=(HR5.out.o.sl cf).Ac (k:=A.length) (by simp);obtain rfl:oa=0:=by
    rcases HR5.out.o.2 with ⟨hv0,_⟩ | ⟨g2,cap,cur',hv0,_⟩
    ·cases hv0
    ·injection hv0 with e1 e2 e3
     injection e1 with e1
     injection e1 with e4 e5
   rw [show (A ++ [r])[A.length]'(by simp)=r by simp,Nat.zero_add] at q0 q1 q2 q3;have HPW:=Z (HR5.out.k r (by simp));have HPC:=Z (HR5.out.c r (by simp));have HKC:=Z (HR5.out.kc r (by simp));have HAK:=Z (HR5.out.ak r (by simp));have hdd:=HR5.out.d r (by simp);have HRN:=Z hrn;have HNA:=Z (show ∀ a ∈ A,(∀ k,a.vk.ownBlock=some k->k<w5.heap.size)/\(∀ k,a.vc.ownBlock=some k->k<w5.heap.size) from fun a ha=>⟨fun k hk=>((HR5.out.k a (by simp [ha])).lt k hk).2,fun k hk=>((HR5.out.c a (by simp [ha])).lt k hk).2⟩)
   have HLO:=Z (show ∀ k,(r.vk.ownBlock=some k\/r.vc.ownBlock=some k)->k<wr.heap.size/\k≠ga from fun k hk=>by
    have h1:=HI.out.r.k r (by simp);have h2:=HI.out.r.c r (by simp);have h3:=HAK.out;rcases hk with e | e
    ·exact ⟨(h1.lt k e).2,fun e2=>h3.1 k (by rw [e2];rfl) e⟩
    ·exact ⟨(h2.lt k e).2,fun e2=>h3.2 k (by rw [e2];rfl) e⟩)
   have HKL:=Z (show ∀ k,(r.vk.ownBlock=some k\/r.vc.ownBlock=some k)->k<w5.heap.size from fun k hk=>by
    rcases hk with e | e
    ·exact (HPW.out.lt k e).2
    ·exact (HPC.out.lt k e).2)
   clear hrn;obtain ⟨rn,A1,c1,A2,c2,A3,c3⟩:=r;obtain ⟨rfl,rfl,hkd⟩:=hdd;have HKD:=Z hkd;simp only at HRN;simp only [Nr.vk,Nr.vc,Nr.vd] at q1 q2 q3 HPW HPC HKC HAK HLO HKL;simp only at hkd;rw [hkd] at q3;clear hkd;simp only [List.length_nil] at q3;have hlk:rn.keys.length<=1000/\rn.cells.length<=1000:=by rw [HRN.out];have:=HCN.out.2;simp only [aW,BJ];omega
   obtain ⟨hlk1,hlk2⟩:=hlk;have HAL:=Z hAl;have hkk:A.length<=1000:=by have:=HCN.out.1;omega
   have hkw:IntKind.i64.wrap (((A ++ [(⟨rn,A1,c1,A2,c2,none,0⟩:Nr)]).length:Int) - 1)=(A.length:Int):=by rw [BC,Bv,IntWalk.i64_in _ (by omega)];omega
   have hk1:(A.length:Int)<((A ++ [(⟨rn,A1,c1,A2,c2,none,0⟩:Nr)]).length:Int):=by rw [BC,Bv];omega
   generalize hln:(A ++ [(⟨rn,A1,c1,A2,c2,none,0⟩:Nr)]).length=ln at *;have HLN:=Z hln;clear hAl hln;generalize hkA:A.length=kk at *;have HKA:=Z hkA;clear hkA;generalize w4.heap.size=g9 at *;have HG8:=Z (show wr.heap.size<=wr.heap.size from BM _);have x0:w5.cell? ⟨wr.heap.size,0,none⟩=some (.string (ap xk)):=by simpa using ae HX5.out 0
   have x1:=aj HX5.out;have y0:w5.cell? ⟨g9,0,none⟩=some (.int .i64 c.size):=by simpa using ae HX9.out 0
   have y1:w5.cell? ⟨g9,1,none⟩=some (.string (ap c.data)):=by simpa using ae HX9.out 1
   have y2:w5.cell? ⟨g9,2,none⟩=some (.int .i64 c.page):=by simpa using ae HX9.out 2
   have HMK:=Z (show ∀ wn,Ch (fun k=>(BG A1 rn.keys.length c1).ownBlock=some k\/(BG A2 rn.cells.length c2).ownBlock=some k) w5 wn->(wn.cell? ⟨ga,kk * 4+1,none⟩=some (.slice A1 rn.keys.length c1)/\wn.cell? ⟨ga,kk * 4+2,none⟩=some (.slice A2 rn.cells.length c2)/\wn.cell? ⟨wr.heap.size,0,none⟩=some (.string (ap xk))/\
     wn.cell? ⟨g9,0,none⟩=some (.int .i64 c.size)/\wn.cell? ⟨g9,1,none⟩=some (.string (ap c.data))/\wn.cell? ⟨g9,2,none⟩=some (.int .i64 c.page)) from fun wn h=>
    ⟨h.cell q1 (fun e=>(HLO.out ga e).2 rfl),h.cell q2 (fun e=>(HLO.out ga e).2 rfl),h.cell x0 (fun e=>by have:=(HLO.out _ e).1;simp only at this;omega),
      h.cell y0 (fun e=>by have:=(HLO.out _ e).1;simp only at this;omega),h.cell y1 (fun e=>by have:=(HLO.out _ e).1;simp only at this;omega),h.cell y2 (fun e=>by have:=(HLO.out _ e).1;simp only at this;omega)⟩)
   have HQ:=Z (BK q0 (BK q1 (BK q2 q3)));clear q0 q1 q2 q3 x0 y0 y1 y2;go_upto_region 9 with fail
   refine wp_region_held_drew (S:=fun wn=>wn.cell? ⟨ga,kk * 4+1,none⟩=some (.slice A1 rn.keys.length c1)/\wn.cell? ⟨ga,kk * 4+2,none⟩=some (.slice A2 rn.cells.length c2)/\wn.cell? ⟨wr.heap.size,0,none⟩=some (.string (ap xk))/\
     wn.cell? ⟨g9,0,none⟩=some (.int .i64 c.size)/\wn.cell? ⟨g9,1,none⟩=some (.string (ap c.data))/\wn.cell? ⟨g9,2,none⟩=some (.int .i64 c.page)) (by kernel_rfl) (HMK.out _ (Ch.refl _ _).drew) (fun hHeld=>?_)
   refine Takes.start [0,1,2,3,4,5,8,9,10,11,12] ?_
   repeat
    refine Takes.cons (v:=?_) (by simp only [Bz,Bw,Bx];rfl) (by kernel_rfl) (by kernel_rfl) (by kernel_rfl) (by exact fun _ _ _ h=>h) hHeld (by rfl) ?_ ?_
    rotate_left
    ·intro w hSw
     (try dsimp only at hSw)
     go_simp
     try with_reducible rfl
    try simp only [BI,Bt,BA,BB]
   with_reducible refine Takes.nil ?_
   refine gF [42,43,49,50,51,12] (F:=[6,7,13,14,15,16,17]) (fun d v wn=>LfJ w5 w.heap.size (.slice A1 rn.keys.length c1) (.slice A2 rn.cells.length c2) rn.keys rn.cells xk c (d 6) (d 7) (d 13) (d 14) (d 15) (d 16) (d 17) (v 42) (v 43) (v 49) (v 50) (v 51) (v 12) wn)
    (fun d v wn h=>HMK.out wn h.chn) (by kernel_rfl) (by kernel_rfl) (by kernel_rfl) (by kernel_rfl) (LfJ.start HPW.out HPC.out) ?steps ?fin
   case steps=>
    refine ValSteps.cons (by simp only [Bz,Bw,Bx];rfl) [] (by kernel_rfl) (fun d v wn hJ hd hp K hK=>?_) ?_
    ·have HJ:=Z hJ;clear hJ hp;simp only [bu,BE,BF,BI,Bt,BA,BB];go_simp;refine hK.out _ (eE v 42 (.slice (some ⟨wn.heap.size,0,none⟩) 1 1)) _ (by simp [bu,eE,BI]) ?_;have hJ:=HJ.out;rw [hd] at hJ;exact hJ.Bi
    refine ValSteps.cons (by simp only [Bz,Bw,Bx];rfl) [6] (by kernel_rfl) (fun d v wn hJ hd hp K hK=>?_) ?_
    ·have HJ:=Z hJ;clear hJ;simp only [BH,BL,false_imp_iff,implies_true,and_true] at hp;have hJ:=HJ.out;rw [hp,hd] at hJ;obtain ⟨hso,gk,e42,hyo⟩:=hJ.Bg;rw [e42] at hyo;simp only [bu,BE,BF,BI,Bt,BA,BB];rw [e42];show if Region.wanted _ _=true then Oper.wp _ _ _ _ _ _ else _
     refine iF (a:=⟨_,_⟩) (xs:=rn.keys) (ys:=[xk]) (by rfl) (by rfl) gT (by rfl) (by rfl) hso (hyo.sl aG) (by simp) (by simp [maxLen];omega) (by simp;omega) (by have:=hJ.chn.size;have:=HC5.out.size;omega) ?_;intro v2 w6 ho2 hg2 hat2 hold;refine hK.out _ (eE v 43 v2) _ (by simp [bu,eE,BI,e42]) ?_;show LfJ _ _ _ _ _ _ _ _ (d 6) true (d 13) (d 14) (d 15) (d 16) (d 17) _ _ _ _ _ _ _;rw [hp];exact hJ.Bm HKC.out (fun k hk=>HKL.out k (.inl hk)) ho2 hg2 hat2 hold
    refine ValSteps.cons (by simp only [Bz,Bw,Bx];rfl) [] (by kernel_rfl) (fun d v wn hJ hd hp K hK=>?_) ?_
    ·have HJ:=Z hJ;clear hJ hp;simp only [bu,BE,BF,BI,Bt,BA,BB];go_simp;refine hK.out _ (eE v 49 (.slice (some ⟨wn.heap.size,0,none⟩) 1 1)) _ (by simp [bu,eE,BI]) ?_;have hJ:=HJ.out;rw [hd] at hJ;exact hJ.Bj
    refine ValSteps.cons (by simp only [Bz,Bw,Bx];rfl) [13] (by kernel_rfl) (fun d v wn hJ hd hp K hK=>?_) ?_
    ·have HJ:=Z hJ;clear hJ;simp only [BH,BL,false_imp_iff,implies_true,and_true] at hp;have hJ:=HJ.out;rw [hp,hd] at hJ;obtain ⟨hso,gk,e49,hyo⟩:=hJ.Bh;rw [e49] at hyo;simp only [bu,BE,BF,BI,Bt,BA,BB];rw [e49];show if Region.wanted _ _=true then Oper.wp _ _ _ _ _ _ else _
     refine iF (a:=⟨_,_⟩) (xs:=rn.cells) (ys:=[c]) (by rfl) (by rfl) iL (by rfl) (by rfl) hso (hyo.sl bx) (by simp) (by simp [maxLen];omega) (by simp;omega) (by have:=hJ.chn.size;have:=HC5.out.size;omega) ?_;intro v2 w6 ho2 hg2 hat2 hold;refine hK.out _ (eE v 50 v2) _ (by simp [bu,eE,BI,e49]) ?_;show LfJ _ _ _ _ _ _ _ _ (d 6) (d 7) (d 13) true (d 15) (d 16) (d 17) _ _ _ _ _ _ _;rw [hp];exact hJ.Bn HKC.out (fun k hk=>HKL.out k (.inr hk)) ho2 hg2 hat2 hold
    refine ValSteps.cons (by simp only [Bz,Bw,Bx];rfl) [7,14] (by kernel_rfl) (fun d v wn hJ hd hp K hK=>?_) ?_
    ·have HJ:=Z hJ;clear hJ;simp only [BH,BL,false_imp_iff,implies_true,and_true] at hp;obtain ⟨p7,p14⟩:=hp;have HPP:=Z (BK p7 p14);obtain ⟨⟨As,cs',es⟩,⟨At,ct',et⟩⟩:(∃ A' c',v 43=.slice A' (rn.keys ++ [xk]).length c')/\(∃ A' c',v 50=.slice A' (rn.cells ++ [c]).length c'):=by obtain ⟨g,-,-,-,-,-,h6,h7,-⟩:=HJ.out;exact ⟨Sl.zM ((h6 p7).1.sl aG),Sl.zM ((h7 p14).1.sl bx)⟩
     clear p7 p14;simp only [bu,BE,BF,BI,Bt,BA,BB];rw [es,et];go_simp;refine hK.out _ (eE v 51 (.agg #[.bool true,v 43,v 50,.slice none 0 0])) _ (by simp [bu,eE,BI,es,et]) ?_;have hJ:=HJ.out;rw [HPP.out.1,HPP.out.2] at hJ;show LfJ _ _ _ _ _ _ _ _ (d 6) (d 7) (d 13) (d 14) true (d 16) (d 17) _ _ _ _ _ _ _;rw [HPP.out.1,HPP.out.2];exact hJ.bld
    refine ValSteps.cons (by simp only [Bz,Bw,Bx];rfl) [] (by kernel_rfl) (fun d v wn hJ hd hp K hK=>?_) ?_
    ·have HJ:=Z hJ;clear hJ hp;simp only [bu,BE,BF,BI,Bt,BA,BB];go_simp;refine hK.out _ (eE v 12 (.pointer (some ⟨wn.heap.size,0,none⟩))) _ (by simp [bu,eE,BI]) ?_;have hJ:=HJ.out;rw [hd] at hJ;exact hJ.alc
    refine ValSteps.store (o:=⟨none,.store 110 (.tmp 12) (.tmp 51),0,"tree.go:355",_,none⟩) (by rfl) [15,16] (by rfl) rfl rfl rfl (by rfl) (by rfl) (by rfl) (by rfl) (n:=4) (by kernel_rfl) (uA HKL.out) ?_;exact ValSteps.nil
   case fin=>
    intro d v wn hJ hd;simp only [BH,BL,false_imp_iff,implies_true,and_true] at hd;obtain ⟨d6,d7,d13,d14,d15,d16,d17⟩:=hd;rw [d6,d7,d13,d14,d15,d16,d17] at hJ;obtain ⟨g,j1,j2,j3,-,-,j6,j7,j8,-,-,j11,j12⟩:=hJ;obtain ⟨e12,hge,hz⟩:=j11.done;obtain ⟨k1,k2⟩:=j6 rfl;obtain ⟨k3,k4⟩:=j7 rfl;have k5:=j8 rfl rfl;clear j6 j7 j8 j11 j12 d6 d7 d13 d14 d15 d16 d17;simp only [bu,BE,BF,BI,Bt,BA,BB];rw [e12];clear e12;generalize v 43=s at *;generalize v 50=t at *;have HLN2:=Z (show aW (cur ++ [(xk,c)])=⟨true,rn.keys ++ [xk],rn.cells ++ [c],[]⟩ by
     rw [HRN.out];simp [aW])
    have hbx:(aW (cur ++ [(xk,c)])).Bd:=by
     have hb:=HI.out.bd;refine ⟨by rw [HLN2.out];simp;omega,by rw [HLN2.out];simp;omega,by rw [HLN2.out];simp,fun k hk=>?_,fun c' hc'=>?_⟩
     ·obtain ⟨y,hy,rfl⟩:=List.mem_map.1 (show k ∈ (cur ++ [(xk,c)]).map (·.1) from hk);rcases List.mem_append.1 hy with h | h
      ·have:=(hb y h).1;omega
      ·rw [List.mem_singleton.1 h];simp only;omega
     ·obtain ⟨y,hy,rfl⟩:=List.mem_map.1 (show c' ∈ (cur ++ [(xk,c)]).map (·.2) from hc');rcases List.mem_append.1 hy with h | h
      ·have:=(hb y h).2;omega
      ·rw [List.mem_singleton.1 h];have:=HCD.out;simp only;omega
    have HFT:=Z (eC (aW (cur ++ [(xk,c)])) (.agg #[.bool true,s,t,.slice none 0 0]) wn ⟨s,t,.slice none 0 0,by rw [HLN2.out],by rw [HLN2.out];exact ⟨k1.sl aG,k3.sl bx,Sl.nil⟩⟩ hbx)
    have HB0:=Z (show ∀ k,((BG A1 rn.keys.length c1).ownBlock=some k\/(BG A2 rn.cells.length c2).ownBlock=some k)->w.heap.size<=k from fun k hk=>by
     rcases hk with e | e
     ·exact (HPW.out.lt k e).1
     ·exact (HPC.out.lt k e).1)
    have HRM:=Z (HR5.out.mid (r:=⟨rn,A1,c1,A2,c2,none,0⟩) j1 j2 j3);have HCM:=Z (HC5.out.then j1 fun i e=>.inr (HB0.out i e));have HSM:=Z (HS5.out.ch j1 (fun e=>by have:=HB0.out _ e;have:=HLT.out;omega) (fun e=>by have:=HB0.out _ e;have:=HLT.out;omega));have HXM:=Z (BK (j1.keep HX5.out (fun e=>by have:=(HLO.out _ e).1;omega)) (j1.keep HX9.out (fun e=>by have:=(HLO.out _ e).1;omega)));have hszn:=j1.size;obtain ⟨As,cs',es⟩:=Sl.zM (k1.sl aG);obtain ⟨At,ct',et⟩:=Sl.zM (k3.sl bx);subst es et;have HK:=Z (show Own sC 1 9 w.heap.size wn (.slice As (rn.keys ++ [xk]).length cs') (rn.keys ++ [xk])/\Own cC 3 119 w.heap.size wn (.slice At (rn.cells ++ [c]).length ct') (rn.cells ++ [c])/\Dis (.slice As (rn.keys ++ [xk]).length cs') (.slice At (rn.cells ++ [c]).length ct')/\
     Nw w5.heap.size (.slice A1 rn.keys.length c1) (.slice As (rn.keys ++ [xk]).length cs')/\Nw w5.heap.size (.slice A2 rn.cells.length c2) (.slice At (rn.cells ++ [c]).length ct') from ⟨k1,k3,k5,k2,k4⟩)
    have HZ:=Z hz;generalize hlk:(rn.keys ++ [xk]).length=lk at *;generalize hlc:(rn.cells ++ [c]).length=lc at *;have HLK:=Z (BK hlk hlc);obtain ⟨m0,m1,m2,m3,m4⟩:=aa hz;simp only at m0;clear j1 j2 j3 k1 k2 k3 k4 k5 hz hge hbx hlk hlc;go_wp2_with fail;refine HFT.out.mono ?_;rintro e w8 ⟨rfl,hb⟩;have HR8:=Z (HRM.out.below hb);have HC8:=Z (HCM.out.trans (Ch.zK hb));have HS8:=Z (HSM.out.ch (S:=fun _=>False) (Ch.zK hb) id id);have HX8:=Z (BK (af HXM.out.1 hb) (af HXM.out.2 hb));have HZ8:=Z (af HZ.out hb);have HK8:=Z (BK (HK.out.1.below hb) (HK.out.2.1.below hb));have hsz8:=hb.size;clear m0 m1 m2 m3 m4 hb HFT HRM HCM HSM HXM;obtain ⟨m0,m1,m2,m3,m4⟩:=aa HZ8.out;simp only at m0;cases hf:bw (aW (cur ++ [(xk,c)]))
    ·have HF:=Z hf;clear hf;have x0:w8.cell? ⟨wr.heap.size,0,none⟩=some (.string (ap xk)):=by simpa using ae HX8.out.1 0
     have x1:=aj HX8.out.1;have y0:w8.cell? ⟨g9,0,none⟩=some (.int .i64 c.size):=by simpa using ae HX8.out.2 0
     have y1:w8.cell? ⟨g9,1,none⟩=some (.string (ap c.data)):=by simpa using ae HX8.out.2 1
     have y2:w8.cell? ⟨g9,2,none⟩=some (.int .i64 c.page):=by simpa using ae HX8.out.2 2
     have y3:=aj HX8.out.2;have HA9:=Z (((HR8.out.o.alloc (.cells #[.string (ap xk)] 9)).alloc (.cells #[.int .i64 c.size,.string (ap c.data),.int .i64 c.page] 119)).alloc (.cells #[.bool true,.slice (some ⟨w8.heap.size,0,none⟩) 1 1,.slice (some ⟨w8.heap.size+1,0,none⟩) 1 1,.slice none 0 0] 110));have HK9:=Z (show Own sC 1 9 w.heap.size (((w8.alloc (.cells #[.string (ap xk)] 9)).alloc (.cells #[.int .i64 c.size,.string (ap c.data),.int .i64 c.page] 119)).alloc (.cells #[.bool true,.slice (some ⟨w8.heap.size,0,none⟩) 1 1,.slice (some ⟨w8.heap.size+1,0,none⟩) 1 1,.slice none 0 0] 110)) (.slice (some ⟨w8.heap.size,0,none⟩) 1 1) [xk] from
      ((show Own sC 1 9 w.heap.size (w8.alloc (.cells #[.string (ap xk)] 9)) (.slice (some ⟨w8.heap.size,0,none⟩) 1 1) [xk] from World.ownsRow_lit w8 #[.string (ap xk)] 1 HC8.out.size (by simp [maxLen]) (by simp)).alloc _).alloc _)
     have HC9:=Z (show Own cC 3 119 w.heap.size (((w8.alloc (.cells #[.string (ap xk)] 9)).alloc (.cells #[.int .i64 c.size,.string (ap c.data),.int .i64 c.page] 119)).alloc (.cells #[.bool true,.slice (some ⟨w8.heap.size,0,none⟩) 1 1,.slice (some ⟨w8.heap.size+1,0,none⟩) 1 1,.slice none 0 0] 110)) (.slice (some ⟨w8.heap.size+1,0,none⟩) 1 1) [c] from by
      have h:=World.ownsRow_lit (e:=119) (size:=3) (base:=w.heap.size) (w8.alloc (.cells #[.string (ap xk)] 9)) #[.int .i64 c.size,.string (ap c.data),.int .i64 c.page] 1 (by have:=HC8.out.size;simp;omega) (by simp [maxLen]) (by simp);rw [show (w8.alloc (.cells #[.string (ap xk)] 9)).heap.size=w8.heap.size+1 by simp] at h;exact (show Own cC 3 119 w.heap.size ((w8.alloc (.cells #[.string (ap xk)] 9)).alloc (.cells #[.int .i64 c.size,.string (ap c.data),.int .i64 c.page] 119)) (.slice (some ⟨w8.heap.size+1,0,none⟩) 1 1) [c] from h).alloc _)
     have hlnb:ln<=1001:=by have:=HLN.out;have:=HKA.out;rw [<- HLN.out,BC,Bv];omega
     have HLNR:=Z (show (A ++ [(⟨rn,A1,c1,A2,c2,none,0⟩:Nr)]).length<=1001 by rw [HLN.out];exact hlnb);have HW8:=Z HC8.out.size;go_wp2_with (at_builtin;refine Hid.out ?_);refine Z ?_;refine al (base:=w.heap.size) rfl rfl zk rfl rfl HA9.out (Sl.one (⟨aW [(xk,c)],some ⟨w8.heap.size,0,none⟩,1,some ⟨w8.heap.size+1,0,none⟩,1,none,0⟩:Nr) (by simp) cf rfl) (by have:=HLNR.out;simp only [maxLen,Bv];omega) (by have:=HLNR.out;simp only [Bv];omega) (by have:=HW8.out;simp;omega) ?_;intro v9 w9 ho hg hat;have hgaw:=(HR8.out.o.lt ga rfl);have hg0:=Ch.zL (S:=fun k=>(BG (some ⟨ga,0,none⟩) ln cg).ownBlock=some k) hg (fun k hk=>hk);have hgk:∀ k,(BG (some ⟨ga,0,none⟩) ln cg).ownBlock=some k->k=ga:=fun k hk=>by injection hk with hk;exact hk.symm
     have HAT:=Z (show v9.ownBlock=(BG (some ⟨ga,0,none⟩) ln cg).ownBlock\/∀ k,v9.ownBlock=some k->w8.heap.size+3<=k from hat.imp id fun e k hk=>by
      rw [e] at hk;injection hk with hk
      simp at hk;omega)
     have HCC:=Z (show Ch (fun k=>(BG (some ⟨ga,0,none⟩) ln cg).ownBlock=some k) w8 w9 from ((((Ch.refl _ w8).alloc _).alloc _).alloc _).then hg0 (fun k hk=>.inl hk))
     have HADD:=Z (HR8.out.add (r':=⟨aW [(xk,c)],some ⟨w8.heap.size,0,none⟩,1,some ⟨w8.heap.size+1,0,none⟩,1,none,0⟩) HCC.out ho (HAT.out.imp id fun e k hk=>by have:=e k hk;omega)
      (HK9.out.ch hg0 fun k hk e=>by have h1:=hgk k e;injection hk with hk;simp only at hk;omega) (HC9.out.ch hg0 fun k hk e=>by have h1:=hgk k e;injection hk with hk;simp only at hk;omega) ⟨rfl,rfl,rfl⟩
      (fun k h1 h2=>by injection h1 with h1;injection h2 with h2;simp only at h1 h2;omega) (fun k h1=>by injection h1 with h1;simp only at h1;omega) (fun k h1=>by injection h1 with h1;simp only at h1;omega)
      (fun k h1 h2=>by
        injection h2 with h2
        simp only at h2;rcases HAT.out with e | e
        ·have:=hgk k (e ▸ h1);omega
        ·have:=e k h1;omega)
      (fun k h1 h2=>by
        injection h2 with h2
        simp only at h2;rcases HAT.out with e | e
        ·have:=hgk k (e ▸ h1);omega
        ·have:=e k h1;omega))
     have HS9:=Z (HS8.out.ch HCC.out (fun e=>by have:=hgk _ e;have:=HLT.out;omega) (fun e=>by have:=hgk _ e;have:=HLT.out;omega));have HC10:=Z (HC8.out.then HCC.out fun k e=>.inr (by have:=hgk k e;omega));have HRR2:=Z (show (ey (ps.drop (i+1)) (done ++ [cur]) [(xk,c)]).run ((cy xv).run s1).1=(s',.ok gl) by
      have:=HRR.out;rw [if_neg (by rw [HF.out];simp)] at this;exact this)
     obtain ⟨A9,c9,rfl⟩:=Sl.zM (ho.sl cf);generalize hl9:((A ++ [(⟨rn,A1,c1,A2,c2,none,0⟩:Nr)]) ++ [(⟨aW [(xk,c)],some ⟨w8.heap.size,0,none⟩,1,some ⟨w8.heap.size+1,0,none⟩,1,none,0⟩:Nr)]).length=l9 at *;clear ho hg hat hg0 hgk hl9 x0 x1 y0 y1 y2 y3 m0 m1 m2 m3 m4;go_wp2_with fail;go_roundw
     case rel=>
      refine ⟨i+1,done ++ [cur],[(xk,c)],_,_,by go_num,hlt,HRR2.out,⟨?_,HADD.out,HS9.out,HC10.out,?_,fun y hy=>?_⟩⟩
      ·rw [BD,HI.out.ns];simp
      ·have:=HCN.out;simp only [BC,Bv];omega
      ·rw [List.mem_singleton.1 hy];have:=HCD.out;exact ⟨hkl,by simp only;omega⟩
     case measure=>simp [intOf];omega
    ·have HF:=Z hf;obtain ⟨gb,ob,hgb,hga8,q0,q1,q2,q3⟩:=(HR8.out.o.sl cf).Ac (k:=A.length) (by simp);injection hgb with hgb
     injection hgb with t1 t2
     subst t1 t2;rw [show (A ++ [(⟨rn,A1,c1,A2,c2,none,0⟩:Nr)])[A.length]'(by simp)=⟨rn,A1,c1,A2,c2,none,0⟩ by simp,Nat.zero_add,HKA.out] at q0 q1 q2 q3;simp only [Nr.vk,Nr.vc,Nr.vd] at q0 q1 q2 q3;have hfz:=HR8.out.o.fz;have HNR:=Z (show kY ⟨aW (cur ++ [(xk,c)]),As,cs',At,ct',none,0⟩=[.bool true,.slice As lk cs',.slice At lc ct',.slice none 0 0] by
      unfold kY Nr.vk Nr.vc Nr.vd;rw [HLN2.out];simp only [HLK.out.1,HLK.out.2];rfl)
     have HSET:=Z (show LfR w.heap.size (w8.setCells ga (A.length * 4) (kY ⟨aW (cur ++ [(xk,c)]),As,cs',At,ct',none,0⟩)) (.slice (some ⟨ga,0,none⟩) ln cg) (A ++ [⟨aW (cur ++ [(xk,c)]),As,cs',At,ct',none,0⟩]) from
      HR8.out.set (r':=⟨aW (cur ++ [(xk,c)]),As,cs',At,ct',none,0⟩) (N:=w5.heap.size)
       (by unfold Nr.vk;rw [HLN2.out];simp only [HLK.out.1];exact HK8.out.1) (by unfold Nr.vc;rw [HLN2.out];simp only [HLK.out.2];exact HK8.out.2) ⟨rfl,rfl,rfl⟩
       (by unfold Nr.vk Nr.vc;rw [HLN2.out];simp only [HLK.out.1,HLK.out.2];exact HK.out.2.2.1) HNA.out hga
       (by unfold Nr.vk;rw [HLN2.out];simp only [HLK.out.1];exact HK.out.2.2.2.1) (by unfold Nr.vc;rw [HLN2.out];simp only [HLK.out.2];exact HK.out.2.2.2.2))
     have HCS:=Z (fE (g:=ga) (kY ⟨aW (cur ++ [(xk,c)]),As,cs',At,ct',none,0⟩) (A.length * 4) w8);rw [HNR.out,HKA.out] at HSET HCS;simp only [World.setCells,Nat.add_assoc,Nat.reduceAdd] at HSET HCS;have HRR2:=Z (show (ey (ps.drop (i+1)) done (cur ++ [(xk,c)])).run ((cy xv).run s1).1=(s',.ok gl) by
      have:=HRR.out;rw [if_pos HF.out] at this;exact this)
     have hgw:w.heap.size<=ga:=(HR8.out.o.lt ga rfl).1;clear hf;go_wp2_with fail;go_roundw
     case rel=>
      refine ⟨i+1,done,cur ++ [(xk,c)],_,_,by go_num,hlt,HRR2.out,⟨?_,HSET.out,HS8.out.ch HCS.out (fun e=>by have:=HLT.out;omega) (fun e=>by have:=HLT.out;omega),HC8.out.then HCS.out (fun k e=>.inr (e ▸ hgw)),?_,fun y hy=>?_⟩⟩
      ·have e:=HI.out.ns;rw [BD,BD (l₂:=[cur])] at e;rw [BD,BD (l₂:=[cur ++ [(xk,c)]]),(List.append_inj e (by rw [BJ,BJ,HKA.out];exact HAL.out)).1];rfl
      ·have:=HCN.out;simp only [BC,Bv];omega
      ·rcases List.mem_append.1 hy with h | h
       ·exact HI.out.bd y h
       ·rw [List.mem_singleton.1 h];have:=HCD.out;exact ⟨hkl,by simp only;omega⟩
     case measure=>simp [intOf];omega
  ·obtain rfl:i=ps.length:=by omega
   have hrun2:=HRI.out;rw [List.drop_length] at hrun2;injection hrun2 with h1 h2
   injection h2 with h2
   subst h1;subst h2;go_wp2_with fail;go_ret2;exact ⟨⟨rs,_,rfl,HI.out.r,HI.out.ns⟩,HI.out.sh,HI.out.ch⟩
end Go.Proofs.YtknioodagnjchaaGreatDoor
namespace Go.Proofs.YtknioodagnjchaaGreatDoor
open List renaming mem_cons_of_mem->Bt,length_append->Bv,length_singleton->Bw,length_cons->Bx,mem_cons_self->Bz,sublist_flatten_of_mem->BA,getElem_of_mem->BB,flatten_cons->BC,length_nil->BD
open Go.RowKit
section
variable {base:Nat} {w w' w3 w5 wn:World} {av:Value} {rs:List Nr}
theorem LfR.AY (h:LfR base w5 av rs) {i:Nat} (hi:i<rs.length) (hc:Ch (fun k=>rs[i].vk.ownBlock=some k) w5 wn) (hk:Own sC 1 9 base wn rs[i].vk rs[i].n.keys):LfR base wn av rs:=by
 have hpw:=List.pairwise_iff_getElem.1 h.pw;have hr:=h.ak rs[i] (List.getElem_mem hi);refine ⟨h.o.ch hc fun k h1 e=>hr.1 k h1 e,fun a ha=>?_,fun a ha=>?_,h.d,h.kc,h.ak,h.pw⟩
 ·obtain ⟨j,hj,rfl⟩:=BB ha;by_cases hij:j=i
  ·subst hij;exact hk
  ·refine (h.k _ ha).ch hc fun k h1 e=>?_
   rcases Nat.lt_or_gt_of_ne hij with hlt | hlt
   ·exact (hpw j i hj hi hlt).1 k h1 e
   ·exact (hpw i j hi hj hlt).1 k e h1
 ·obtain ⟨j,hj,rfl⟩:=BB ha;refine (h.c _ ha).ch hc fun k h1 e=>?_
  by_cases hij:j=i
  ·subst hij;exact h.kc _ ha k e h1
  ·rcases Nat.lt_or_gt_of_ne hij with hlt | hlt
   ·exact (hpw j i hj hi hlt).2.2.1 k h1 e
   ·exact (hpw i j hi hj hlt).2.1 k e h1
theorem LfR.far (h:LfR base w av rs) (h3:LfR base w3 av rs) (hc:Ch (fun k=>w3.heap.size<=k) w w'):LfR base w' av rs:=
 ⟨h.o.ch hc fun k h1 e=>by have:=(h3.o.lt k h1).2;omega,fun r hr=>(h.k r hr).ch hc fun k h1 e=>by have:=((h3.k r hr).lt k h1).2;omega,fun r hr=>(h.c r hr).ch hc fun k h1 e=>by have:=((h3.c r hr).lt k h1).2;omega,h.d,h.kc,h.ak,h.pw⟩
theorem LfR.nrs (h:LfR base w av rs):yY base w rs:=fun r hr=>by
 obtain ⟨n,a1,c1,a2,c2,a3,c3⟩:=r;have hd:=h.d _ hr;simp only at hd;obtain ⟨rfl,rfl,hk⟩:=hd;refine ⟨⟨(h.k _ hr).sl aG,(h.c _ hr).sl bx,?_⟩,fun k e=>((h.k _ hr).lt k e).1,fun k e=>((h.c _ hr).lt k e).1,fun k e=>(by cases e)⟩;simp only [Nr.vd,hk];exact Sl.nil
end
theorem oG:∀ {ns:List Nd} {acc qs:List Int} {s s':Sf},(fQ ns acc).run s=(s',.ok qs)->qs.length=acc.length+ns.length
 | [],acc,qs,s,s',h=>by
   injection h with _ h
   injection h with h
   rw [<- h];rfl
 | n :: r,acc,qs,s,s',h=>by
   have:=oG (oH h).2.2;rw [this,Bv];simp only [Bx,BD];omega
theorem uK (gl:List (List (Int × By))):(iy gl).flatten=gl.flatten/\(iy gl).length=gl.length:=by
 unfold iy
 split
 ·rename_i y b r heq
  have e:gl=r.reverse ++ [b,[y]]:=by have:=congrArg List.reverse heq;simpa using this
  subst e;refine ⟨?_,by simp⟩;simp only [List.flatten_append,BC,List.flatten_nil,List.append_nil];rw [<- List.append_assoc (b.take _),List.take_append_drop]
 ·exact ⟨rfl,rfl⟩
theorem oP {α:Type}:∀ {gl:List (List α)},(∀ G ∈ gl,G≠[])->gl.length<=gl.flatten.length
 | [],_=>by simp
 | G :: gl,h=>by
   have:=oP (gl:=gl) fun x hx=>h x (Bt _ hx)
   have:=List.length_pos_iff.2 (h G Bz);simp only [Bx,BC,Bv];omega
theorem jn {L:List (Int × By)} (h:L≠[]):(dq L).flatten=L/\1<=(dq L).length/\(dq L).length<=L.length:=by
 cases L with
 | nil=>exact absurd rfl h
 | cons x L=>
   have hf:=uK (dp cR L [] [x]);have hfl:(dp cR L [] [x]).flatten=x :: L:=by rw [jg];rfl
   have hne:∀ G ∈ dp cR L [] [x],G≠[]:=iz (mk:=cR) (P:=fun G=>G≠[]) (fun _ _ _=>by simp) (fun _=>by simp) L [] [x] (fun _ h=>by cases h) (by simp);have hl:=oP hne;have h1:1<=(dp cR L [] [x]).length:=by
    rcases hg:dp cR L [] [x] with _ | ⟨G,gl⟩
    ·rw [hg] at hfl;cases hfl
    ·simp
   show (iy (dp cR L [] [x])).flatten=_/\1<=(iy (dp cR L [] [x])).length/\(iy (dp cR L [] [x])).length<=_;rw [hf.1,hf.2,hfl];rw [hfl] at hl;exact ⟨rfl,h1,hl⟩
theorem xl {L:List (Int × By)} (hL:L.length<=1000) (h64:∀ x ∈ L,x.2.length<=64) (hne:L≠[]):∀ n ∈ (dq L).map cR,n.Bd:=fun n hn=>by
 obtain ⟨G,hG,rfl⟩:=List.mem_map.1 hn;have hf:=(jn hne).1;have hsub:G.Sublist L:=by
  have:=BA hG
  rwa [hf] at this
 have hl:=hsub.length_le;refine ⟨by simp [cR];omega,by simp [cR],by simp [cR];omega,fun k hk=>?_,fun c hc=>by cases hc⟩;obtain ⟨y,hy,rfl⟩:=List.mem_map.1 (List.mem_of_mem_tail hk);have:=h64 y (hsub.subset hy);omega
theorem xj {L:List (Int × By)} (h64:∀ x ∈ L,x.2.length<=64) (hne:L≠[]):∀ h ∈ (dq L).map iH,h.length<=64:=fun h hh=>by
 obtain ⟨G,hG,rfl⟩:=List.mem_map.1 hh;have hf:=(jn hne).1;have hsub:G.Sublist L:=by
  have:=BA hG
  rwa [hf] at this
 cases G with
 | nil=>exact Nat.zero_le _
 | cons y G=>exact h64 y (hsub.subset Bz)
theorem mT:∀ {ps:List Pr} {done:List (List (By × Ce))} {cur:List (By × Ce)} {s s':Sf} {gl:List (List (By × Ce))},(∀ p ∈ ps,p.2.length<=5000)->(∀ p ∈ ps,p.1.length<=64)->(ey ps done cur).run s=(s',.ok gl)->
  (∀ G ∈ done ++ [cur],∀ y ∈ G,y.1.length<=64/\y.2.data.length<=5000)->∀ G ∈ gl,∀ y ∈ G,y.1.length<=64/\y.2.data.length<=5000
 | [],done,cur,s,s',gl,_,_,h,hd=>by
   injection h with _ h
   injection h with h
   rw [<- h];exact hd
 | x :: r,done,cur,s,s',gl,hv,hk,h,hd=>by
   obtain ⟨c,hc,hr⟩:=iq h;have hcd:=lF hc;have h1:=hv x Bz;have h2:=hk x Bz;have hx:x.1.length<=64/\c.data.length<=5000:=⟨h2,by omega⟩
   split at hr
   ·refine mT (fun p hp=>hv p (Bt _ hp)) (fun p hp=>hk p (Bt _ hp)) hr fun G hG y hy=>?_
    rcases List.mem_append.1 hG with h3 | h3
    ·exact hd G (List.mem_append_left _ h3) y hy
    ·rw [List.mem_singleton.1 h3] at hy;rcases List.mem_append.1 hy with h4 | h4
     ·exact hd cur (by simp) y h4
     ·rw [List.mem_singleton.1 h4];exact hx
   ·refine mT (fun p hp=>hv p (Bt _ hp)) (fun p hp=>hk p (Bt _ hp)) hr fun G hG y hy=>?_
    rcases List.mem_append.1 hG with h3 | h3
    ·exact hd G h3 y hy
    ·rw [List.mem_singleton.1 h3] at hy;rw [List.mem_singleton.1 hy];exact hx
theorem ll:∀ {ps:List Pr} {done:List (List (By × Ce))} {cur:List (By × Ce)} {s s':Sf} {gl:List (List (By × Ce))},(ey ps done cur).run s=(s',.ok gl)->1<=gl.length/\gl.length<=ps.length+done.length+1
 | [],done,cur,s,s',gl,h=>by
   injection h with _ h
   injection h with h
   rw [<- h];simp
 | x :: r,done,cur,s,s',gl,h=>by
   obtain ⟨c,hc,hr⟩:=iq h
   split at hr
   ·have:=ll hr;simp only [Bx];omega
   ·have:=ll hr;simp only [Bv,Bx,BD] at this ⊢;omega
theorem jI {N:Nat}:∀ {ps:List Pr} {done:List (List (By × Ce))} {cur:List (By × Ce)} {s s':Sf} {gl:List (List (By × Ce))},(∀ G ∈ done,G.length<=N)->cur.length<=N->cur.length+ps.length<=N->1+ps.length<=N+1->(ey ps done cur).run s=(s',.ok gl)->∀ G ∈ gl,G.length<=N
 | [],done,cur,s,s',gl,hd,hc,_,_,h=>by
   injection h with _ h
   injection h with h
   rw [<- h];intro G hG;rcases List.mem_append.1 hG with h1 | h1
   ·exact hd G h1
   ·rw [List.mem_singleton.1 h1];exact hc
 | x :: r,done,cur,s,s',gl,hd,hc,h1,h2,h=>by
   obtain ⟨c,_,hr⟩:=iq h;simp only [Bx] at h1 h2
   split at hr
   ·exact jI hd (by simp only [Bv,Bw];omega) (by simp only [Bv,Bw];omega) (by omega) hr
   ·refine jI (fun G hG=>?_) (by simp only [Bw];omega) (by simp only [Bw];omega) (by omega) hr;rcases List.mem_append.1 hG with h3 | h3
    ·exact hd G h3
    ·rw [List.mem_singleton.1 h3];exact hc
theorem jV {α:Type} {f:α->List Value} {size base:Nat} {e:TypeId} {w:World} {v:Value} {xs ys:List α} {P:Program} {ops:Array Oper} {rest:List Oper} {o:Oper} {a:Act} {Q:Exit->Act->World->Prop} (hgd:o.guard=none) {s x:Operand} {t:TypeId}
  (ho:o.op=.call { callee:=.builtin .append,args:=#[s,x],argTypes:=#[t,t] }) {bytes:Nat} (T:ElemT P t e f size bytes) {b off c:Nat} (hs:a.eval s=v) (hx:a.eval x=.slice (some ⟨b,off,none⟩) ys.length c)
  (hown:Own f size e base w v xs) (hy:Sl f size w (.slice (some ⟨b,off,none⟩) ys.length c) ys) (hys:ys≠[])
  (h63:xs.length+ys.length<=maxLen) (hbytes:(xs.length+ys.length) * bytes<=140737488355328) (hbase:base<=w.heap.size)
  (h:∀ v' w',Own f size e base w' v' (xs ++ ys)->w.grownBy w' v.ownBlock->(v'.ownBlock=v.ownBlock\/v'.ownBlock=some w.heap.size)->Own f size e base w' v xs->wpList P ops Q rest (a.put o.dst v') w'):wpList P ops Q (o :: rest) a w:=by
 refine wpList_plain hgd fun K hK=>?_
 obtain ⟨v',w',hr,h2,h3,h5,h6⟩:=iT (P:=P) T o.type hown hy hys h63 hbytes hbase;unfold Oper.wp execOp;simp only [ho,resolve,invoke,builtin,Sem.run_bind,Sem.run_pure,Result.andThen_ok,List.map_toArray,List.map_cons,List.map_nil,hs,hx,hr];exact hK _ _ (h v' w' h2 h3 h5 h6)
structure BlI (w:World) (b gs gm:Nat) (sF:Sf) (q:Int) (f:Nat) (rs:List Nr) (hs:List By) (s2:Sf) (nv hv:Value) (wr:World):Prop where
 run:(ew f (rs.map (·.n)) hs).run s2=(sF,.ok q)
 n:Sl kY 4 wr nv rs
 nf:Fr b nv
 r:yY b wr rs
 bd:∀ r ∈ rs,r.n.Bd
 c1:1<=rs.length
 c2:rs.length<=1000
 h:Sl sC 1 wr hv hs
 hf:Fr b hv
 hl:hs.length=rs.length
 h64:∀ h ∈ hs,h.length<=64
 hc:∃ A n c,hv=.slice A n c/\n<=c
 sh:ShIs wr gs gm s2
 ch:Ch (fun k=>k=gs\/k=gm) w wr
 sz:b<=wr.heap.size
theorem pT {f:Nat} {ns:List Nd} {hs:List By} {s2 sF:Sf} {q:Int} (h:(ew (f+1) ns hs).run s2=(sF,.ok q)):
  ∃ s3 qs,(fQ ns []).run s2=(s3,.ok qs)/\(if qs.length=1 then (Pro.pure (qs.getD 0 0):Pro Int) else ew f ((dq (qs.zip hs)).map cR) ((dq (qs.zip hs)).map iH)).run s3=(sF,.ok q):=by
 unfold ew at h;rw [run_bind] at h;generalize (fQ ns []).run s2=y at *;obtain ⟨s3,a⟩:=y;cases a with
 | ok qs=>exact ⟨s3,qs,rfl,h⟩
 | err e=>cases h
theorem wi {G:List (By × Ce)} (hl:G.length<=1001) (h:∀ y ∈ G,y.1.length<=64/\y.2.data.length<=5000):(aW G).Bd:=by
 refine ⟨by simp [aW];omega,by simp [aW];omega,by simp [aW],fun k hk=>?_,fun c hc=>?_⟩
 ·obtain ⟨y,hy,rfl⟩:=List.mem_map.1 hk;have:=(h y hy).1;omega
 ·obtain ⟨y,hy,rfl⟩:=List.mem_map.1 hc;have:=(h y hy).2;omega
end Go.Proofs.YtknioodagnjchaaGreatDoor
namespace Go.Proofs.YtknioodagnjchaaGreatDoor
open List renaming length_map->Bt,getElem?_eq_getElem->Bv,mem_map_of_mem->Bw,getElem_mem->Bz,length_singleton->BA,length->BB
open Nat renaming le_refl->Bx,zero_le->BC
open Go.Lib renaming hid->Z
open Go.RowKit
def zt (ps:List Pr) (r:Ans Int) (e:Ending):Prop:=
 (aH (ps.map (·.1))=false->e=.returned (.tuple #[.int .i64 0,.int .i64 1]))/\(aH (ps.map (·.1))=true->ps.any dH=true->e=.returned (.tuple #[.int .i64 0,.int .i64 47]))/\
 (aH (ps.map (·.1))=true->ps.any dH=false->∀ q,r=.ok q->e=.returned (.tuple #[.int .i64 q,.int .i64 0]))
def lO (ps:List Pr) (s:Sf):Sf:=if aH (ps.map (·.1))=true/\ps.any dH=false then ((eV ps).run s).1 else s
theorem oZ (ps:List Pr) (pv:Value) (gs gm:Nat) (s:Sf) (w:World) (hS:ShIs w gs gm s) (hp:Sl iX 2 w pv ps) (hpb:∀ k,pv.ownBlock=some k->k≠gs/\k≠gm) (hpl:ps.length<=999) (hv:∀ p ∈ ps,p.2.length<=1000000)
  (hrun:aH (ps.map (·.1))=true->ps.any dH=false->∃ q,((eV ps).run s).2=.ok q):
  Calls Tryz.prog 46 #[co gs,pv] w fun e w'=>zt ps ((eV ps).run s).2 e/\ShIs w' gs gm (lO ps s)/\Ch (fun k=>k=gs\/k=gm) w w':=by
 obtain ⟨A,c,rfl⟩:=Sl.zM hp;have HS:=Z hS;have HP:=Z hp;have HPB:=Z hpb;have HKV:=Z (And.intro True.intro hv);have HRUN:=Z hrun;have HLT:=Z (show gs<w.heap.size/\gm<w.heap.size from ⟨aj hS.blk,hS.book.lt⟩);have hkl:(ps.map (·.1)).length=ps.length:=Bt ..;have HKLN:=Z hkl;have HR0:=Z (show gq (cW (ps.map (·.1)) 0) ((ps.map (·.1)).drop 0)=aH (ps.map (·.1)) from kK _)
 have HBAD:=Z (fun (w':World) (hr:aH (ps.map (·.1))=false) (hb:Below w.heap.size w w')=>(show zt ps ((eV ps).run s).2 (.returned (.tuple #[.int .i64 0,.int .i64 1]))/\ShIs w' gs gm (lO ps s)/\Ch (fun k=>k=gs\/k=gm) w w' from
  ⟨⟨fun _=>rfl,fun h=>by (rw [hr] at h;cases h),fun h=>by (rw [hr] at h;cases h)⟩,by unfold lO;rw [if_neg (by rw [hr];simp)];exact hS.ch (S:=fun _=>False) (Ch.zK hb) id id,Ch.zK hb⟩))
 clear hS hp hpb hv hrun hkl;unfold co;go_enter Tryz.func46,Tryz.ntmps46;go_wp2_with fail;go_loopw [17] (fun iv wr=>∃ k:Nat,k<=ps.length/\iv=.int .i64 k/\gq (cW (ps.map (·.1)) k) ((ps.map (·.1)).drop k)=aH (ps.map (·.1))/\Below w.heap.size w wr) (fun iv _=>ps.length - (intOf iv).toNat)
 case atStart=>exact ⟨0,BC _,rfl,HR0.out,Below.refl _ _⟩
 case round=>
  obtain ⟨k,hk,rfl,hr,hb⟩:=hrel;have HR:=Z hr;have HB:=Z hb;clear hr hb;by_cases hlt:k<ps.length
  ·obtain ⟨b,off,rfl,hbl,c0,c1⟩:=(HP.out.keep HB.out).zW hlt;have hk1:(k:Int)<(ps.length:Int):=by omega
   have hkm:k<(ps.map (·.1)).length:=by rw [HKLN.out];exact hlt
   have HST:=Z (kJ hkm);have hge:(ps.map (·.1))[k]=ps[k].1:=by simp
   rw [hge] at HST;have hsz:(ap ps[k].1).size=ps[k].1.length:=au _;have hba:Below wr.heap.size wr (wr.alloc (.cells #[.string (ap ps[k].1),.string (ap ps[k].2)] 62)):=(Below.refl _ wr).alloc (Bx _) _;have HB2:=Z (HB.out.trans (hba.mono HB.out.size));have HP2:=Z ((HP.out.keep HB.out).keep hba);have HX:=Z (ag (w0:=wr) (g:=wr.heap.size) (o:=.cells #[.string (ap ps[k].1),.string (ap ps[k].2)] 62 (0,0)) rfl);clear hge hkm hba;go_upto_region 4 with fail
   generalize wr.alloc (.cells #[.string (ap ps[k].1),.string (ap ps[k].2)] 62)=w2 at *;have m0:=ae HX.out 0;have m2:=aj HX.out;simp at m0;clear c0 c1 hbl;have f0:=bj m0 m2;by_cases h64:64<ps[k].1.length
   ·have h64b:(64:Int)<((ap ps[k].1).size:Int):=by rw [hsz];omega
    have HV:=Z (show aH (ps.map (·.1))=false by rw [<- HR.out,HST.out,decide_eq_false (by omega)];rfl);clear hsz;refine aM (by kernel_rfl) (by kernel_rfl) ?_
    repeat (go_big_quiet_step (fail))
    refine wpQuiet_nil ?_;rintro w' ⟨⟨w4,hb4⟩,rfl⟩;have HB4:=Z (HB2.out.trans (hb4.mono HB2.out.size));go_wp2_with fail;go_ret2;exact HBAD.out _ HV.out HB4.out
   ·have h64b:¬ (64:Int)<((ap ps[k].1).size:Int):=by rw [hsz];omega
    have h64d:decide ((64:Int)<((ap ps[k].1).size:Int))=false:=decide_eq_false h64b;have h64c:decide (ps[k].1.length<=64)=true:=by simp;omega
    rcases Nat.eq_zero_or_pos k with h0 | h0
    ·have HV:=Z (show gq (cW (ps.map (·.1)) (k+1)) ((ps.map (·.1)).drop (k+1))=aH (ps.map (·.1)) by
      rw [<- HR.out,HST.out,h64c];simp [cW,h0])
     have hk0:decide ((0:Int)<(k:Int))=false:=decide_eq_false (by omega);have hk0':decide (0<k)=false:=decide_eq_false (by omega);clear hsz h64c h0;refine aM (by kernel_rfl) (by kernel_rfl) ?_
     repeat (go_big_quiet_step (fail))
     refine wpQuiet_nil ?_;rintro w' ⟨⟨w4,hb4⟩,rfl⟩;have HB4:=Z (HB2.out.trans (hb4.mono HB2.out.size));go_wp2_with fail;go_roundw
     case rel=>exact ⟨k+1,hlt,by go_num,HV.out,HB4.out⟩
     case measure=>simp [intOf];omega
    ·have hmlt:k - 1<ps.length:=by omega
     obtain ⟨b',off',he,hbl2,d0,d1⟩:=HP2.out.zW hmlt;injection he with he
     injection he with e1 e2
     subst e1 e2;have f1:=bj d0 hbl2;have hk0:decide ((0:Int)<(k:Int))=true:=decide_eq_true (by omega);have hk0':decide (0<k)=true:=decide_eq_true h0;have hkw:IntKind.i64.wrap ((k:Int) - 1)=((k - 1:Nat):Int):=by rw [IntWalk.i64_in _ (by omega)];omega
     have hk2:((k - 1:Nat):Int)<(ps.length:Int):=by omega
     have HS2:=Z (show aH (ps.map (·.1))=(bM ps[k - 1].1 ps[k].1 && gq (cW (ps.map (·.1)) (k+1)) ((ps.map (·.1)).drop (k+1))) by
      rw [<- HR.out,HST.out,h64c];have:cW (ps.map (·.1)) k=some ps[k - 1].1:=by simp [cW,show k≠0 by omega,hmlt]
      rw [this];simp)
     generalize hpk:ps[k].1=x at *;generalize hpm:ps[k - 1].1=y at *;generalize k - 1=m at *;have hls1:Op.bytesLess (ap y).toList (ap x).toList=bM y x:=by rw [ay,ay];rfl
     have hls2:Op.bytesLess (ap x).toList (ap y).toList=bM x y:=by rw [ay,ay];rfl
     have heq:((ap y).toList == (ap x).toList)=decide (y=x):=by rw [ay,ay];by_cases h:y=x <;> simp [h]
     clear hsz h64c hpk hpm d1 d0;cases hcc:bM y x
     ·have HV:=Z (show aH (ps.map (·.1))=false by rw [HS2.out,hcc];rfl);rw [hcc] at hls1;clear hcc HS2 hls2 heq;refine aM (by kernel_rfl) (by kernel_rfl) ?_
      repeat (go_big_quiet_step (fail))
      refine wpQuiet_nil ?_;rintro w' ⟨⟨w4,hb4⟩,rfl⟩;have HB4:=Z (HB2.out.trans (hb4.mono HB2.out.size));go_wp2_with fail;go_ret2;exact HBAD.out _ HV.out HB4.out
     ·have HV:=Z (show gq (cW (ps.map (·.1)) (k+1)) ((ps.map (·.1)).drop (k+1))=aH (ps.map (·.1)) by rw [HS2.out,hcc];simp);rw [hcc] at hls1;rw [aL hcc] at hls2;rw [decide_eq_false (ir hcc)] at heq;clear hcc HS2;refine aM (by kernel_rfl) (by kernel_rfl) ?_
      repeat (go_big_quiet_step (fail))
      refine wpQuiet_nil ?_;rintro w' ⟨⟨w4,hb4⟩,rfl⟩;have HB4:=Z (HB2.out.trans (hb4.mono HB2.out.size));go_wp2_with fail;go_roundw
      case rel=>exact ⟨k+1,hlt,by go_num,HV.out,HB4.out⟩
      case measure=>simp [intOf];omega
  ·obtain rfl:k=ps.length:=by omega
   have hrise:aH (ps.map (·.1))=true:=by rw [<- HR.out,List.drop_of_length_le (by rw [HKLN.out];omega)];cases cW (ps.map (·.1)) ps.length <;> rfl
   have HRS:=Z hrise;have HCT:=Z (nS (.slice A ps.length c) ps wr (HP.out.keep HB.out) (by omega) HKV.out.2);clear hrise hk;go_wp2_with fail;refine HCT.out.mono ?_;rintro e w2 ⟨rfl,hb⟩;have HB2:=Z (HB.out.trans (hb.mono HB.out.size));clear hb;cases hlong:ps.any dH
   ·have HLG:=Z hlong
    have hv5:∀ p ∈ ps,p.2.length<=5000:=fun p hp=>by
     have:=List.any_eq_false.1 hlong p hp;simp only [dH,decide_eq_true_eq] at this;omega
    have hk6:∀ p ∈ ps,p.1.length<=64:=fun p hp=>(rises_pw.1 HRS.out).1 p.1 (Bw hp)
    obtain ⟨q,hq⟩:=HRUN.out HRS.out hlong;obtain ⟨s1,gl,sF,hr1,hr2,hsF⟩:∃ s1 gl sF,(ey ps [] []).run s=(s1,.ok gl)/\(ew 20 (gl.map aW) (gl.map rG)).run s1=(sF,.ok q)/\lO ps s=sF:=by
     have hb:lO ps s=((eV ps).run s).1:=by unfold lO;rw [if_pos ⟨HRS.out,hlong⟩]
     rw [hb];unfold eV at hq ⊢;rw [run_bind] at hq ⊢;generalize (ey ps [] []).run s=y at *;obtain ⟨s1,a⟩:=y;cases a with
     | ok gl=>exact ⟨s1,gl,_,rfl,Prod.ext rfl hq,rfl⟩
     | err e=>cases hq
    have HQ:=Z hq;have HR2:=Z hr2;have HSF:=Z hsF;have HS2:=Z (HS.out.ch (S:=fun _=>False) (Ch.zK HB2.out) id id);have hgl64:∀ G ∈ gl,∀ y ∈ G,y.1.length<=64/\y.2.data.length<=5000:=mT hv5 hk6 hr1 (fun G hG y hy=>by rw [List.mem_singleton.1 hG] at hy;cases hy);have HGL:=Z hgl64;have HGN:=Z (jI (N:=1001) (fun G hG=>by cases hG) (by simp) (by simp;omega) (by omega) hr1);have hglen:1<=gl.length/\gl.length<=1000:=(by have:=ll hr1;simp only [List.length_nil] at this;omega);have HLV:=Z (sk ps (.slice A ps.length c) gl gs gm s s1 w2 HS2.out (HP.out.keep HB2.out) HPB.out (by omega) hk6 hv5 hr1);unfold co at HLV;have HLT2:=Z (show gs<w2.heap.size/\gm<w2.heap.size by have:=HLT.out;have:=HB2.out.size;omega);clear hlong hv5 hk6 hq hr1 hr2 hsF hgl64;go_wp2_with fail;refine HLV.out.mono ?_;rintro e w3 ⟨⟨rs,nv,rfl,hr,hn⟩,hs,hc⟩;have HR3:=Z hr;have HN:=Z hn;have HS3:=Z hs;have HC3:=Z ((Ch.zK (S:=fun k=>k=gs\/k=gm) HB2.out).trans hc);have hsz3:=hc.size;obtain ⟨An,cn,rfl⟩:=Sl.zM (hr.o.sl cf);have hrl:rs.length=gl.length:=by have:=congrArg BB hn;simpa using this
    have HRL:=Z hrl;have hrlb:rs.length<=1000:=by omega
    clear hr hn hs hc HLV hrl;go_wp2_with fail;go_loopw [10,55] (fun hv iv wr=>∃ i:Nat,iv=.int .i64 i/\i<=rs.length/\LfR w2.heap.size wr (.slice An rs.length cn) rs/\Own sC 1 9 w3.heap.size wr hv ((gl.map rG).take i)/\ShIs wr gs gm s1/\Ch (fun k=>k=gs\/k=gm) w wr/\w3.heap.size<=wr.heap.size) (fun _ iv _=>rs.length - (intOf iv).toNat)
    case atStart=>exact ⟨0,rfl,BC _,HR3.out,Own.nil,HS3.out,HC3.out,Bx _⟩
    case round=>
     obtain ⟨i,rfl,hi,hr,ho,hs,hc,hsz⟩:=hrel;have HRI:=Z hr;have HO:=Z ho;have HSI:=Z hs;have HCI:=Z hc;obtain ⟨Ah,chh,rfl⟩:=Sl.zM (ho.sl aG);have HHL:=Z (show ((gl.map rG).take i).length=i by rw [List.length_take,Bt];have:=HRL.out;omega);clear hr ho hs hc;generalize hlh:((gl.map rG).take i).length=lh at *;have HLH:=Z hlh;clear hlh;by_cases hlt2:i<rs.length
     ·have hmem:=Bz hlt2;obtain ⟨ga,oa,rfl,hga,e0,e1,e2,e3⟩:=(HRI.out.o.sl cf).Ac hlt2;have HKW:=Z (HRI.out.k rs[i] hmem);have HK3:=Z (HR3.out.k rs[i] hmem);have hgi:i<gl.length:=by have:=HRL.out;omega
      have hrn:rs[i].n=aW gl[i]:=by have:=congrArg (fun l:List Nd=>l[i]?) HN.out;simpa [Bv hlt2,Bv hgi] using this
      have hGb:=HGL.out gl[i] (Bz hgi);obtain ⟨r,hr⟩:∃ r,rs[i]=r:=⟨_,rfl⟩;have HRE:=Z hr;rw [hr] at e0 e1 e2 e3 HKW HK3 hrn;have HRN:=Z hrn;clear hr hrn hGb hmem;obtain ⟨rn,A1,c1,A2,c2,A3,c3⟩:=r;simp only at HRN;simp only [Nr.vk,Nr.vc,Nr.vd] at e1 e2 e3 HKW HK3;have hkl2:rn.keys.length<=1001:=by rw [HRN.out];unfold aW;rw [Bt];exact HGN.out _ (Bz hgi)
      have hi1:(i:Int)<(rs.length:Int):=by omega
      have hba:Below wr.heap.size wr (wr.alloc (.cells #[.bool rn.leaf,.slice A1 rn.keys.length c1,.slice A2 rn.cells.length c2,.slice A3 rn.kids.length c3] 110)):=(Below.refl _ wr).alloc (Bx _) _;have HX:=Z (ag (w0:=wr) (g:=wr.heap.size) (o:=.cells #[.bool rn.leaf,.slice A1 rn.keys.length c1,.slice A2 rn.cells.length c2,.slice A3 rn.kids.length c3] 110 (0,0)) rfl);have HR5:=Z (HRI.out.below hba);have HO5:=Z (HO.out.below hba);have HS5:=Z (HSI.out.ch (S:=fun _=>False) (Ch.zK hba) id id);have HC5:=Z (HCI.out.trans (Ch.zK hba));have HK5:=Z (HKW.out.below hba);have hsz5:=hba.size;clear hba;go_upto_region 16 with fail
      generalize wr.alloc (.cells #[.bool rn.leaf,.slice A1 rn.keys.length c1,.slice A2 rn.cells.length c2,.slice A3 rn.kids.length c3] 110)=w5 at *;have m1:=ae HX.out 1;have m2:=aj HX.out;simp at m1;clear e0 e1 e2 e3 hga;have hw2:w2.heap.size<=w5.heap.size:=by omega
      go_wp2_with (at_builtin;refine Hid.out ?_);refine Z ?_;refine jV (base:=w2.heap.size) (xs:=rn.keys) (ys:=[[]]) rfl rfl gT rfl rfl (HK5.out.alloc _) (Sl.one ([]:By) (by simp) aG rfl) (by simp) (by simp [maxLen];omega) (by simp;omega) (by simp;omega) ?_;intro v6 w6 ho hg hat hold;have HO6:=Z ho;have HG6:=Z hg;have hba6:Below w5.heap.size w5 (w5.alloc (.cells #[.string (ap [])] 9)):=(Below.refl _ w5).alloc (Bx _) _;have hck:=Ch.zL (S:=fun k=>(Value.slice A1 rn.keys.length c1).ownBlock=some k) hg (fun k hk=>hk);have hkb:∀ k,(Value.slice A1 rn.keys.length c1).ownBlock=some k->w2.heap.size<=k/\k<w3.heap.size:=fun k hk=>HK3.out.lt k hk
      have HR6:=Z (show LfR w2.heap.size w6 (.slice (some ⟨ga,oa,none⟩) rs.length cn) rs from (HR5.out.below hba6).AY (i:=i) hlt2 (by rw [HRE.out];exact hck) (by rw [HRE.out];exact hold));have HH6:=Z ((HO5.out.below hba6).ch hck (fun k hk e=>by have:=(HO5.out.lt k hk).1;have:=(hkb k e).2;omega));have HS6:=Z ((HS5.out.ch (S:=fun _=>False) (Ch.zK hba6) id id).ch hck (fun e=>by have:=(hkb _ e).1;have:=HLT2.out;omega) (fun e=>by have:=(hkb _ e).1;have:=HLT2.out;omega));have HC6:=Z ((HC5.out.trans (Ch.zK hba6)).then hck (fun k e=>.inr (by have:=(hkb k e).1;have:=HB2.out.size;omega)));have hsz6:w5.heap.size+1<=w6.heap.size:=by have:=hg.size;simp at this;omega
      have hl6:0<(rn.keys ++ [([]:By)]).length:=by simp
      obtain ⟨A6,c6,e6⟩:=Sl.zM (ho.sl aG);rw [e6] at ho hat;obtain ⟨b6,o6,rfl,hb6,-,q6⟩:=(show Sl sC 1 w6 (.slice A6 (rn.keys ++ [([]:By)]).length c6) (rn.keys ++ [[]]) from ho.sl aG).key hl6;subst e6;obtain ⟨hx,hhx⟩:∃ z,(rn.keys ++ [([]:By)])[0]=z:=⟨_,rfl⟩;rw [hhx,Nat.add_zero] at q6;have HHX:=Z (show (rn.keys ++ [([]:By)])[0]?=some hx by rw [Bv hl6,hhx]);clear hhx ho hg hat hold hck hba6;generalize hlk:(rn.keys ++ [([]:By)]).length=lk at *;have hlk0:(0:Int)<(lk:Int):=by omega
      have HA7:=Z (HH6.out.alloc (.cells #[.string (ap hx)] 9));have HLI:=Z (show ((gl.map rG).take i).length<=1001 by rw [HLH.out,HHL.out];omega);clear hlk m1;go_wp2_with (at_builtin;refine Hid.out ?_);refine Z ?_;refine al (base:=w3.heap.size) (xs:=(gl.map rG).take i) (ys:=[hx]) rfl rfl gT rfl rfl HA7.out (Sl.one (hx:By) (by simp) aG rfl) (by have:=HLI.out;simp only [maxLen,BA];omega) (by have:=HLI.out;simp only [BA];omega) (by simp;omega) ?_;intro v7 w7 ho7 hg7 hat7;have HO7:=Z ho7;have hba7:Below w6.heap.size w6 (w6.alloc (.cells #[.string (ap hx)] 9)):=(Below.refl _ w6).alloc (Bx _) _;have hc7:Ch (fun k=>w3.heap.size<=k) w6 w7:=((Ch.refl _ w6).alloc _).then (Ch.zL (S:=fun k=>w3.heap.size<=k) hg7 (fun k hk=>(HO.out.lt k hk).1)) (fun k e=>.inl e);have HR7:=Z (HR6.out.far HR3.out hc7);have HS7:=Z (HS6.out.ch hc7 (by have:=HLT2.out;omega) (by have:=HLT2.out;omega));have HC7:=Z (HC6.out.then hc7 (fun k e=>.inr (by have:=HB2.out.size;omega)));have hsz7:=hc7.size;have HTK:=Z (show (gl.map rG).take i ++ [hx]=(gl.map rG).take (i+1) by
       have h1:=HHX.out;rw [HRN.out] at h1;rw [List.take_succ_eq_append_getElem (show i<(gl.map rG).length by rw [Bt];exact hgi),List.getElem_map];unfold aW at h1;unfold rG;generalize gl[i]=G at *;cases G with
       | nil=>injection h1 with h1;rw [<- h1];rfl
       | cons y G=>injection h1 with h1;rw [<- h1];rfl)
      rw [HTK.out] at HO7;obtain ⟨A7,c7,rfl⟩:=Sl.zM (ho7.sl aG);generalize hl7:((gl.map rG).take i ++ [hx]).length=l7 at *;clear ho7 hg7 hat7 hba7 hc7 hl7 q6;go_wp2_with fail;go_roundw
      case rel=>exact ⟨i+1,by go_num,hlt2,HR7.out,HO7.out,HS7.out,HC7.out,by omega⟩
      case measure=>simp [intOf];omega
     ·obtain rfl:i=rs.length:=by omega
      have HO2:=Z (show Own sC 1 9 w3.heap.size wr (.slice Ah lh chh) (gl.map rG) by
       have h:=HO.out;rw [List.take_of_length_le (by rw [Bt];have:=HRL.out;omega)] at h;exact h)
      have HBI:=Z (show BlI w w2.heap.size gs gm sF q 20 rs (gl.map rG) s1 (.slice An rs.length cn) (.slice Ah lh chh) wr from
       ⟨by rw [HN.out];exact HR2.out,HRI.out.o.sl cf,fun k hk=>(HRI.out.o.lt k hk).1,HRI.out.nrs,fun r hr=>by
         have h1:r.n ∈ gl.map aW:=by rw [<- HN.out];exact Bw hr
         obtain ⟨G,hG,e⟩:=List.mem_map.1 h1;rw [<- e];exact wi (HGN.out G hG) (HGL.out G hG),by have:=HRL.out;omega,hrlb,HO2.out.sl aG,fun k hk=>by have:=(HO2.out.lt k hk).1;omega,by rw [Bt];exact HRL.out.symm,
         fun h hh=>by
          obtain ⟨G,hG,rfl⟩:=List.mem_map.1 hh;cases G with
          | nil=>exact BC _
          | cons y G=>exact (HGL.out _ hG y List.mem_cons_self).1,⟨_,_,_,rfl,HO2.out.capN⟩,HSI.out,HCI.out,by omega⟩)
      have HW2:=Z (show w.heap.size<=w2.heap.size from HB2.out.size);clear hlt2 hi;go_wp2_with fail;go_loopg [8,10] 20 (fun f nv hv wr=>∃ (rs:List Nr) (hs:List By) (s2:Sf),BlI w w2.heap.size gs gm sF q f rs hs s2 nv hv wr)
      case atStart=>exact ⟨rs,_,s1,HBI.out⟩
      case round=>
       obtain ⟨rs2,hs,s2,hb⟩:=hrel;have HB:=Z hb;obtain ⟨An2,cn2,rfl⟩:=Sl.zM hb.n;obtain ⟨Ah2,nh2,ch2,rfl,hcap⟩:=hb.hc;have hc2:=hb.c2;have hc1:=hb.c1;cases gk with
       | zero=>exact absurd hb.run (by intro h;cases h)
       | succ f=>
         obtain ⟨s3,qs,hlay,hrest⟩:=pT hb.run;have hql:qs.length=rs2.length:=by have:=oG hlay;simpa using this
         have HQL:=Z hql;have HRE:=Z hrest;have HLY:=Z (wj rs2 (.slice An2 rs2.length cn2) qs w2.heap.size gs gm s2 s3 wr hb.sh hb.n hb.nf hb.r hb.bd (by omega) hlay HLT2.out.1 HLT2.out.2);unfold co at HLY;clear hb hlay hrest hql;go_wp2_with fail;refine HLY.out.mono ?_;rintro e w4 ⟨⟨pv,rfl,ho⟩,hs4,hc4⟩;have HO:=Z ho;have HS4:=Z hs4;have HC4:=Z (HB.out.ch.trans hc4);have hsz4:=hc4.size;have HSZ:=Z HB.out.sz;have HH4:=Z (de HB.out.h hc4 fun k hk e=>by have:=HB.out.hf k hk;have:=HLT2.out;omega);obtain ⟨Aq,cq,rfl⟩:=Sl.zM (ho.sl ax);have HCQ:=Z ho.capN;clear ho hs4 hc4 HLY;generalize hlq:qs.length=lq at *;have HLQ:=Z hlq;clear hlq;by_cases h1:lq=1
         ·subst h1;have HRR:=Z (show sF=s3/\qs.getD 0 0=q by
           have h:=HRE.out;rw [if_pos rfl] at h;injection h with h1 h2
           injection h2 with h2
           exact ⟨h1.symm,h2⟩)
          have hq0:0<qs.length:=by rw [HLQ.out];omega
          have hqq:qs[0]=q:=by rw [<- HRR.out.2,List.getD_eq_getElem?_getD,Bv hq0];rfl
          obtain ⟨bq,oq,rfl,hbq,cq0⟩:=(show Sl iC 1 w4 (.slice Aq 1 cq) qs from HO.out.sl ax).AD hq0;rw [hqq,Nat.add_zero] at cq0;have h11:((1:Int) == 1)=true:=rfl;clear hqq hq0;go_wp2_with fail;go_ret2;refine ⟨⟨fun h=>by (rw [HRS.out] at h;cases h),fun _ h=>by (rw [HLG.out] at h;cases h),fun _ _ q' hq'=>?_⟩,by rw [HSF.out,HRR.out.1];exact HS4.out,HC4.out⟩;have h2:=HQ.out;rw [hq'] at h2;injection h2 with h2
          rw [h2];rfl
         ·have h1b:((lq:Int) == 1)=false:=by simpa using (show ¬ (lq:Int)=1 by omega)
          have HRR:=Z (show (ew f ((dq (qs.zip hs)).map cR) ((dq (qs.zip hs)).map iH)).run s3=(sF,.ok q) by
           have h:=HRE.out;rw [if_neg h1] at h;exact h)
          have hqh:qs.length=hs.length:=by rw [HLQ.out,HQL.out,HB.out.hl]
          have hzl:(qs.zip hs).length=lq:=by rw [List.length_zip,<- hqh,Nat.min_self,HLQ.out]
          have hz1:(qs.zip hs).map (·.1)=qs:=List.map_fst_zip (by omega);have hz2:(qs.zip hs).map (·.2)=hs:=List.map_snd_zip (by omega);have hl2:2<=lq:=by have:=HQL.out;omega
          have hl3:lq<=1000:=by have:=HQL.out;omega
          have h64:∀ x ∈ qs.zip hs,x.2.length<=64:=fun x hx=>HB.out.h64 x.2 (by rw [<- hz2];exact Bw hx)
          have hne:qs.zip hs≠[]:=by intro e;rw [e] at hzl;simp at hzl;omega
          have HCNT:=Z (jn hne);have HBD2:=Z (xl (by rw [hzl];exact hl3) h64 hne);have HHD2:=Z (xj h64 hne);have HZL:=Z hzl
          have HAB:=Z (vq (qs.zip hs) (.slice Aq lq cq) (.slice Ah2 nh2 ch2) w2.heap.size w4 (by rw [hz1];exact HO.out.sl ax) (by rw [hz2];exact HH4.out) (by rw [hzl];exact hl2) (by rw [hzl];exact hl3) h64
           (fun k hk=>by have:=(HO.out.lt k hk).1;have:=HSZ.out;omega) HB.out.hf (by have:=HSZ.out;omega) ⟨_,_,_,rfl,HCQ.out⟩ ⟨_,_,_,rfl,hcap⟩)
          clear hqh hzl hz1 hz2 h64 hne;go_wp2_with fail;refine HAB.out.mono ?_;rintro e w5 ⟨⟨rs3,nv3,hv3,rfl,hn3,hf3,hr3,hm3,hh3,hhf3,hhc3⟩,hb5⟩;have HBN:=Z (show BlI w w2.heap.size gs gm sF q f rs3 ((dq (qs.zip hs)).map iH) s3 nv3 hv3 w5 from
           ⟨by rw [hm3];exact HRR.out,hn3,hf3,hr3,fun r hr=>HBD2.out r.n (by rw [<- hm3];exact Bw hr),by
             have h:=congrArg BB hm3;rw [Bt,Bt] at h;have:=HCNT.out.2.1;omega,by
             have h:=congrArg BB hm3;rw [Bt,Bt] at h;have:=HCNT.out.2.2;have:=HZL.out;omega,hh3,hhf3,by
             have h:=congrArg BB hm3;rw [Bt,Bt] at h;rw [Bt];exact h.symm,HHD2.out,hhc3,HS4.out.ch (S:=fun _=>False) (Ch.zK hb5) id id,HC4.out.trans (Ch.zK hb5),by have:=hb5.size;have:=HSZ.out;omega⟩)
          clear hn3 hf3 hr3 hm3 hh3 hhf3 hhc3 hb5 HAB;go_wp2_with fail;go_roundg f
          case measure=>omega
          case rel=>exact ⟨rs3,_,s3,HBN.out⟩
   ·have HLG:=Z hlong;clear hlong;go_wp2_with fail;go_ret2;refine ⟨⟨fun h=>by (rw [HRS.out] at h;cases h),fun _ _=>rfl,fun _ h=>by (rw [HLG.out] at h;cases h)⟩,by unfold lO;rw [if_neg (by rw [HLG.out];simp)];exact HS.out.ch (S:=fun _=>False) (Ch.zK HB2.out) id id,Ch.zK HB2.out⟩
end Go.Proofs.YtknioodagnjchaaGreatDoor
namespace Go.Proofs.YtknioodagnjchaaGreatDoor
open Go.RowKit
theorem wK {s:Sf} {p:Int} (hl:s.left=-1) (hp:bt s p=0) {α:Type} (k:By->Pro α):(Pro.get p k).run s=(k (s.B p)).run s:=by show (if bt s p=0 then (k (s.B p)).run (bF s) else _)=_;rw [if_pos hp,(nE hl 0).1]
theorem Lk.here {s:Sf} (hs:s.left=-1) {left:Nat} {p:Int} {v:By} {ps:List Int} (h:Lk s.B left p v ps):∀ f,ps.length<=f->(∀ q ∈ ps,bt s q=0)->(ma f left p).run s=(s,.ok (v,ps)):=by
 induction h with
 | nil=>intro f _ _;cases f <;> rfl
 | @cons left p next part v ps h0 h1 _ ih=>
   intro f hf hu;cases f with
   | zero=>simp at hf
   | succ f=> rw [ma,if_neg h0,wK hs (hu _ List.mem_cons_self),h1];exact ah (ih f (by simpa using hf) (fun q hq=>hu q (List.mem_cons_of_mem _ hq)))
theorem Cel.here {s:Sf} (hs:s.left=-1) {c:Ce} {v:By} {ps:List Int} (h:Cel s.B c v ps) (hu:∀ q ∈ ps,bt s q=0):(bB c).run s=(s,.ok (v,ps)):=by
 have hg:=h.1;have h2:=h.2;unfold bB;rw [if_neg (by rw [hg];simp)]
 split at h2
 ·rename_i hc
  obtain ⟨_,_,h3⟩:=fJ hg (by omega);rw [if_pos h3,h2.1,h2.2];rfl
 ·rename_i hc
  obtain ⟨_,h3,_,h4⟩:=fw hg (by omega);rw [if_neg (by omega)];exact h2.here hs 23 (by rw [h2.len];omega) hu
def zC (base gn:Nat) (L:List Int) (lv:Value) (d:Nat) (ps:List Pr) (gs:List Int) (w:World) (e:Ending) (w':World):Prop:=
 ∃ pv lv',e=.returned (.tuple #[pv,.int .i64 ((d+1:Nat):Int),.bool true])/\Own iX 2 62 w.heap.size w' pv ps/\SnIs base w' gn lv' (L ++ gs)/\
   (lv'.ownBlock=lv.ownBlock\/∀ k,lv'.ownBlock=some k->w.heap.size<=k)/\Dis pv lv'/\Ch (fun k=>k=gn\/lv.ownBlock=some k) w w'
def HiV (hi:Option By) (hv:By):Prop:=(hi=none/\hv=[])\/(hi=some hv/\hv≠[])
def yU (d:Nat):Prop:=∀ (at_:Int) (n:Nd) (lo hv:By) (hi:Option By) (ps:List Pr) (g:List Int) (root:Bool) (lev:Int) (base b0 b1 m gu gb gn:Nat) (lv:Value) (L:List Int) (s:Sf) (w0 w:World),
 RqIs b0 b1 m w0 gu gb s->m<=1000000->Below w0.heap.size w0 w->w0.heap.size<=gn->SnIs base w gn lv L->base<=w.heap.size->
 dO (s.B at_)=some n->aU s.B d n lo hi ps g->(root=false->ps≠[])->HiV hi hv->(∀ q ∈ at_ :: g,bt s q=0)->(at_ :: g).Nodup->(∀ q ∈ at_ :: g,q ∉ L)->L.length+(at_ :: g).length<=10000->ps.length<=10000->1<=lev->lev+d<=20->
 Calls Tryz.prog 100 #[.pointer (some ⟨gu,0,none⟩),.int .i64 at_,.string (ap lo),.string (ap hv),.bool root,.int .i64 lev,.pointer (some ⟨gn,0,none⟩)] w (zC base gn L lv d ps (at_ :: g) w)
structure RedI (w w4:World) (base gn:Nat) (L:List Int) (lv:Value) (out:List Pr) (dg:List Int) (pv lvi:Value) (wr:World):Prop where
 s:SnIs base wr gn lvi (L ++ dg)
 at_:lvi.ownBlock=lv.ownBlock\/∀ k,lvi.ownBlock=some k->w4.heap.size<=k
 dis:Dis pv lvi
 o:Own iX 2 62 w4.heap.size wr pv out
 c1:Ch (fun k=>k=gn\/lv.ownBlock=some k) w wr
 c2:Ch (fun k=>k<w.heap.size\/w4.heap.size<=k) w4 wr
section
variable {w w4 wr w':World} {base gn:Nat} {L:List Int} {lv pv lvi:Value} {out:List Pr} {dg:List Int}
theorem RedI.le (h:RedI w w4 base gn L lv out dg pv lvi wr):w4.heap.size<=wr.heap.size:=h.c2.size
theorem RedI.below (h:RedI w w4 base gn L lv out dg pv lvi wr) (hb:Below wr.heap.size wr w'):RedI w w4 base gn L lv out dg pv lvi w':=
 ⟨h.s.below hb,h.at_,h.dis,h.o.below hb,h.c1.trans (Ch.zK hb),h.c2.trans (Ch.zK hb)⟩
theorem RedI.Bb (h:RedI w w4 base gn L lv out dg pv lvi wr) (h0:SnIs base w gn lv L):∀ k,lvi.ownBlock=some k->k<w.heap.size\/w4.heap.size<=k:=fun k hk=>by
 rcases h.at_ with e | e
 ·exact .inl (h0.o.lt k (e ▸ hk)).2
 ·exact .inr (e k hk)
theorem RedI.zO (h:RedI w w4 base gn L lv out dg pv lvi wr) (h0:SnIs base w gn lv L) (hb:base<=w.heap.size) (hw:w.heap.size<=w4.heap.size) {lv':Value} {g:List Int} (hs:SnIs base w' gn lv' (L ++ (dg ++ g))) (ha:lv'.ownBlock=lvi.ownBlock\/∀ k,lv'.ownBlock=some k->wr.heap.size<=k)
  (hc:Ch (fun k=>k=gn\/lvi.ownBlock=some k) wr w'):RedI w w4 base gn L lv out (dg ++ g) pv lv' w':=by
 have hle:=h.le;have hlt:=h0.lt;refine ⟨hs,?_,?_,h.o.ch hc fun k hk e=>?_,h.c1.then hc fun i e=>?_,h.c2.then hc fun i e=>?_⟩
 ·rcases ha with e | e
  ·exact h.at_.imp (fun e2=>e.trans e2) (fun e2 k hk=>e2 k (e ▸ hk))
  ·exact .inr fun k hk=>by have:=e k hk;omega
 ·intro k hk hk2;rcases ha with e | e
  ·exact h.dis k hk (e ▸ hk2)
  ·have:=e k hk2;have:=(h.o.lt k hk).2;omega
 ·rcases e with e | e
  ·have:=(h.o.lt k hk).1;omega
  ·exact h.dis k hk e
 ·rcases e with e | e
  ·exact .inl (.inl e)
  ·rcases h.at_ with e2 | e2
   ·exact .inl (.inr (e2 ▸ e))
   ·have:=e2 i e;exact .inr (by omega)
 ·rcases e with e | e
  ·exact .inl (.inl (by omega))
  ·exact .inl (h.Bb h0 i e)
theorem RedI.push (h:RedI w w4 base gn L lv out dg pv lvi wr) (hw:w.heap.size<=w4.heap.size) {pv':Value} {p:List Pr} (ho:Own iX 2 62 w4.heap.size w' pv' (out ++ p)) (hg:wr.grownBy w' pv.ownBlock) (hat:pv'.ownBlock=pv.ownBlock\/pv'.ownBlock=some wr.heap.size) (h0:SnIs base w gn lv L) (hb:base<=w.heap.size):
  RedI w w4 base gn L lv (out ++ p) dg pv' lvi w':=by
 have hle:=h.le;have hlt:=h0.lt;have hc:Ch (fun k=>pv.ownBlock=some k) wr w':=Ch.zL hg fun k hk=>hk
 refine ⟨h.s.ch hc (fun e=>by have:=(h.o.lt gn e).1;omega) (fun k hk e=>h.dis k e hk),h.at_,?_,ho,h.c1.then hc fun i e=>.inr (by have:=(h.o.lt i e).1;omega),h.c2.then hc fun i e=>.inl (.inr (h.o.lt i e).1)⟩;intro k hk hk2;rcases hat with e | e
 ·exact h.dis k (e ▸ hk) hk2
 ·rw [e] at hk;injection hk with hk
  have:=(h.s.o.lt k hk2).2;omega
end
end Go.Proofs.YtknioodagnjchaaGreatDoor
namespace Go.Proofs.YtknioodagnjchaaGreatDoor
open List renaming filter_filter->Bt,length_cons->Bv,nil_append->Bx,mem_cons_self->Bz,length_append->BA,filter_append->BB,append_assoc->BC,filter_cons->BD
open Bool renaming false_eq_true->Bw,and_self->BE
def km (p:Pr):Prop:=p.1.length<=64/\p.2.length<=5000
instance (p:Pr):Decidable (km p):=by unfold km;infer_instance
def bJ (R:List Pr):List Pr:=R.foldl (fun M p=>if km p then putP M p.1 p.2 else M) []
theorem eL (R:List Pr) (p:Pr):bJ (R ++ [p])=if km p then putP (bJ R) p.1 p.2 else bJ R:=by unfold bJ;rw [List.foldl_append];rfl
theorem mZ:∀ (R A:List Pr),(A ++ R).Pairwise (fun a b=>bM a.1 b.1=true)->(∀ p ∈ R,km p)->R.foldl (fun M p=>if km p then putP M p.1 p.2 else M) A=A ++ R
 | [],A,_,_=>by simp
 | p :: R,A,h,hg=>by
   have h1:=List.pairwise_append.1 h;have h2:∀ q ∈ A,bM q.1 p.1=true:=fun q hq=>h1.2.2 q hq p Bz
   rw [List.foldl_cons,if_pos (hg p Bz)];have e:putP A p.1 p.2=A ++ [p]:=by unfold putP;rw [lV h2,je fun q hq=>aL (h2 q hq)]
   rw [e,mZ R (A ++ [p]) (by rw [BC];exact h) fun q hq=>hg q (List.mem_cons_of_mem _ hq),BC];rfl
theorem sy {R:List Pr} (h:aH (R.map (·.1))=true) (hl:R.any dH=false):bJ R=R:=by
 obtain ⟨h1,h2⟩:=rises_pw.1 h
 have:=mZ R [] (by rw [Bx];exact List.pairwise_map.1 h2) fun p hp=>⟨h1 p.1 (List.mem_map_of_mem hp),by
  have:=List.any_eq_false.1 hl p hp;simp only [dH,decide_eq_true_eq] at this;omega⟩
 rw [Bx] at this;exact this
structure BuI (keys:List By) (i:Nat) (R:List Pr) (tot used:Nat):Prop where
 rl:R.length=i
 rk:R.map (·.1)=keys.take i
 ut:used<=tot
 u6:used<=65536
 tt:tot<=5100 * i
 w1:227 * wt R<=681 * i+used
 rv:∀ p ∈ R,p.2.length<=5099
 w2:227 * wt (bJ R)<=681 * i+used
 ms:(bJ R).Pairwise (fun a b=>bM a.1 b.1=true)
 mg:∀ p ∈ bJ R,km p
 ml:(bJ R).length<=i
theorem BuI.start (keys:List By):BuI keys 0 [] 0 0:=⟨rfl,by simp,Nat.le_refl _,by omega,by omega,by simp [wt],fun _ h=>(by cases h),by simp [wt,bJ],List.Pairwise.nil,fun _ h=>(by cases h),Nat.le_refl _⟩
theorem xE {ps:List Pr} {k v:By} {p:Pr} (h:p ∈ putP ps k v):p ∈ ps\/p=(k,v):=by
 unfold putP at h;rcases List.mem_append.1 h with h | h
 ·exact .inl (List.mem_filter.1 h).1
 ·rcases List.mem_cons.1 h with h | h
  ·exact .inr h
  ·exact .inl (List.mem_filter.1 h).1
theorem xF (ps:List Pr) (k v:By):(putP ps k v).length<=ps.length+1:=by
 have h:=List.length_filter_le (fun p:Pr=>bM p.1 k || bM k p.1) ps
 have e:∀ l:List Pr,(mP l k).length+(lw l k).length<=l.length:=fun l=>by
  induction l with
  | nil=>simp [mP,lw]
  | cons a l ih=>
    have hx:=mO k a;unfold mP lw at *;rw [BD,BD];cases h1:bM a.1 k <;> cases h2:bM k a.1
    ·simp only [Bv,reduceIte,Bw];omega
    ·simp only [Bv,reduceIte,Bw];omega
    ·simp only [Bv,reduceIte,Bw];omega
    ·rw [aL h1] at h2;cases h2
 have:=e ps;unfold putP;rw [BA,Bv];omega
theorem BuI.step {keys:List By} {i:Nat} {R:List Pr} {tot used l:Nat} (h:BuI keys i R tot used) (hi:i<keys.length) (hl:l<=5099) (v:By) (used':Nat)
  (hv:(65536<tot+l/\v=[]/\used'=used)\/(tot+l<=65536/\v.length=l/\used'=used+l)):BuI keys (i+1) (R ++ [(keys[i],v)]) (tot+l) used':=by
 have hvl:v.length<=5099:=by
  rcases hv with ⟨_,rfl,_⟩ | ⟨_,h,_⟩
  ·exact Nat.zero_le _
  ·omega
 have hc:227 * (2+chn v)<=681+(used' - used)/\used<=used'/\used'<=tot+l/\used'<=65536:=by
  have h1:=h.ut;have h2:=h.u6;have h3:=yK (v:=v) (Nat.le_refl _);have h4:=Nat.div_mul_le_self (v.length+226) 227;rcases hv with ⟨_,rfl,rfl⟩ | ⟨_,h,rfl⟩
  ·simp at h3 h4 ⊢;omega
  ·omega
 obtain ⟨c1,c2,c3,c4⟩:=hc;have hw1:=h.w1;have hw2:=h.w2;have ht:=h.tt;have hml:=h.ml;refine ⟨by rw [BA,h.rl];rfl,by rw [List.map_append,h.rk,List.take_succ_eq_append_getElem hi];rfl,c3,c4,by omega,?_,fun p hp=>?_,?_,?_,?_,?_⟩
 ·rw [pj,dZ];have:wt []=0:=rfl;simp only at c1 ⊢;omega
 ·rcases List.mem_append.1 hp with hp | hp
  ·exact h.rv p hp
  ·rw [List.mem_singleton.1 hp];exact hvl
 ·rw [eL]
  split
  ·have:=vw (bJ R) keys[i] v;simp only;omega
  ·omega
 ·rw [eL]
  split
  ·exact uo _ _ h.ms
  ·exact h.ms
 ·rw [eL]
  split
  ·rename_i hok
   intro p hp;rcases xE hp with hp | rfl
   ·exact h.mg p hp
   ·exact hok
  ·exact h.mg
 ·rw [eL]
  split
  ·have:=xF (bJ R) keys[i] v;simp only;omega
  ·omega
theorem tq (a:Pr) (k:By):(bM a.1 k && bM k a.1)=false:=by
 cases h:bM a.1 k
 ·rfl
 ·rw [aL h];rfl
theorem xI (ps:List Pr) (k v:By):putP (jO ps k) k v=putP ps k v:=by
 have h1:mP (jO ps k) k=mP ps k:=by unfold mP jO mP lw;rw [BB,Bt,Bt];simp only [BE,tq];have e:(ps.filter fun _=>false)=[]:=List.filter_eq_nil_iff.2 (fun _ _ h=>by cases h);rw [e,List.append_nil]
 have h2:lw (jO ps k) k=lw ps k:=by unfold lw jO mP lw;rw [BB,Bt,Bt];simp only [BE,Bool.and_comm (bM k _),tq];have e:(ps.filter fun _=>false)=[]:=List.filter_eq_nil_iff.2 (fun _ _ h=>by cases h);rw [e,Bx]
 unfold putP;rw [h1,h2]
theorem BuI.room {keys:List By} {i:Nat} {R:List Pr} {tot used:Nat} (h:BuI keys i R tot used) (hi:i<=300):wt R<=1200/\wt (bJ R)<=1200:=by have h1:=h.w1;have h2:=h.w2;have h3:=h.u6;omega
theorem rQ:br (dA 4096)=0/\bR (dA 4096)=1/\cA (aJ (dA 4096)) 1=0/\Hp (cX (aJ (dA 4096)) 1) []/\(cX (aJ (dA 4096)) 1).h.pages=2/\(cX (aJ (dA 4096)) 1).h.spare=1:=by
 obtain ⟨e1,e2,e3⟩:=vL (s:=dA 4096) rfl rfl (by decide) (by decide);have e4:bR (dA 4096)=1:=e2;have e5:(aJ (dA 4096)).h.pages=2:=by rw [e3];rfl
 have e6:(aJ (dA 4096)).h.spare=0:=by rw [e3];rfl
 obtain ⟨n,s',h1,h2,h3,h4⟩:=hp_new.new (by simp);have hr:(s',Ans.ok n)=(aJ (dA 4096),Ans.ok (bR (dA 4096))):=by
  have h:=h1 (fun n=>(Pro.pure n:Pro Int));have h':(Pro.new fun n=>(Pro.pure n:Pro Int)).run (dA 4096)=(aJ (dA 4096),.ok (bR (dA 4096))):=by show (if br (dA 4096)=0 then _ else _)=_;rw [if_pos e1];rfl
  exact h.symm.trans h'
 injection hr with r1 r2
 injection r2 with r2
 rw [r1,r2,e4] at h3;obtain ⟨F,ho⟩:=h3;have hF:F.length=0:=by have:=ho.sp;rw [e6] at this;omega
 obtain ⟨s2,F',f1,f2,-,-,f5,f6⟩:=ho.free;have hr2:=f1 (fun _=>(Pro.pure ():Pro Unit));have h0:cA (aJ (dA 4096)) 1=0:=by
  by_cases h:cA (aJ (dA 4096)) 1=0
  ·exact h
  ·exfalso;have h':(Pro.free 1 fun _=>(Pro.pure ():Pro Unit)).run (aJ (dA 4096))=(cX (aJ (dA 4096)) 1,.err (cA (aJ (dA 4096)) 1)):=by show (if cA (aJ (dA 4096)) 1=0 then _ else _)=_;rw [if_neg h]
   have:=hr2.symm.trans h';injection this with _ h3
   cases h3
 have hs2:cX (aJ (dA 4096)) 1=s2:=by
  have h':(Pro.free 1 fun _=>(Pro.pure ():Pro Unit)).run (aJ (dA 4096))=(cX (aJ (dA 4096)) 1,.ok ()):=by show (if cA (aJ (dA 4096)) 1=0 then _ else _)=_;rw [if_pos h0];rfl
  have:=h'.symm.trans hr2;injection this
 rw [hs2];exact ⟨e1,e4,h0,⟨F',f2⟩,f5.trans e5,by rw [f2.sp,f6,hF];rfl⟩
end Go.Proofs.YtknioodagnjchaaGreatDoor
