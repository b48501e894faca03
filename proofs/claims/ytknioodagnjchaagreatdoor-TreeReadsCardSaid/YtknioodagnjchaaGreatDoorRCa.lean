/- chain: page, Cell. chain.walk. -/
import Derived.Test.YtknioodagnjchaaGreatDoorRTShelf4
import Derived.Test.YtknioodagnjchaaGreatDoorRTSpare
import Derived.Test.YtknioodagnjchaaGreatDoorRNb
import Derived.Test.YtknioodagnjchaaGreatDoorRSp
import Derived.Test.YtknioodagnjchaaGreatDoorRTBuild2
import Derived.Test.YtknioodagnjchaaGreatDoorRTDec2
import Derived.Deep.RegionLaw
set_option maxRecDepth 100000
set_option maxHeartbeats 1000000
namespace Go.Proofs.YtknioodagnjchaaGreatDoor
open Go.Lib (hid)
open Go.RowKit
def bV (gs:Nat):Value:=.iface 24 (.pointer (some ⟨gs,0,none⟩))
theorem rX (a:Addr) (w:World):(nilAhead 415 24 (.pointer (some a)) "Put").run Tryz.prog w=.ok (some false) w:=by kernel_rfl
theorem sd (a:Addr) (w:World):(method 415 24 (.pointer (some a)) "Put").run Tryz.prog w=.ok (19,.pointer (some a)) w:=by kernel_rfl
theorem qP (part:By) (next:Nat) (w:World) (hl:part.length≤227) (hn:next<4294967296):
  Calls Tryz.prog 124 #[.string (al part),.int .i64 next] w fun e w'=>e=.returned (.string (al (dV part next)))∧Below w.heap.size w w':=by
 have hg:IntKind.u64.wrap (next:Int)=(next:Int):=IntWalk.u64_in _ (by omega);have s0:=aq part;have s1:=aq (aK 4 next);rw [ay] at s1;obtain ⟨r,hr⟩:∃ r:Nat,r=227 - part.length:=⟨_,rfl⟩;have hr2:(227:Int) - (part.length:Int)=(r:Int):=by omega
 have HR:=hid hr;have hr3:r≤232:=by omega
 have s4:=aq (List.replicate r 0);rw [List.length_replicate] at s4;clear hr;go_enter Tryz.func124,Tryz.ntmps124;go_wp2_with fail;refine (ea next w (by omega)).mono ?_;rintro e w1 ⟨rfl,hb1⟩;have HB1:=hid hb1;clear hb1;go_wp2_with fail;refine (eX r w1 hr3).mono ?_;rintro e w2 ⟨rfl,hb2⟩;have HB2:=hid (HB1.out.trans (hb2.mono HB1.out.size))
 have HS:=hid (show ({ data:=#[3] }:ByteArray) ++ al (aK 4 next) ++ al part ++ al (List.replicate r 0)=al (dV part next) by
  rw [bU,bU,bU];simp only [aW];show al ((([3] ++ aK 4 next) ++ part) ++ List.replicate r 0)=_;unfold dV;rw [HR.out];simp)
 clear hb2;go_wp2_with fail;go_ret;exact ⟨by rw [HS.out];rfl,HB2.out⟩
def jj (c:Ce):Value:=.agg #[.int .i64 c.size,.string (al c.data),.int .i64 c.page]
def rG:Ans Ce→Value
 | .ok c=>.tuple #[jj c,.int .i64 0]
 | .err e=>.tuple #[jj ⟨0,[],0⟩,.int .i64 e]
theorem rZ {s:Sf} (h:s.Ok):0≤bN s∧bN s<4096:=by
 unfold bN
 split
 ·rename_i he
  unfold bj at he
  split at he
  ·cases he
  ·split at he
   ·cases he
   ·have:=gg h.h h.l he;exact ⟨this.2.2.1,this.2.2.2⟩
 ·exact ⟨by decide,by decide⟩
theorem nD (v:By) (gs gm:Nat) (s:Sf) (w:World) (h:ShIs w gs gm s) (hl:v.length≤1000000):
  Calls Tryz.prog 70 #[bV gs,.string (al v)] w fun e w'=>e=.returned (rG ((cH v).run s).2)∧ShIs w' gs gm ((cH v).run s).1∧Ch (fun k=>k=gs∨k=gm) w w':=by
 have s0:=aq v;have HA:=hid (h.ch (S:=fun _=>False) (Ch.alloc (Ch.refl _ w) (cF ⟨0,[],0⟩)) id id);have HX:=hid (ag (w0:=w) (g:=w.heap.size) (o:=cF ⟨0,[],0⟩) rfl);have HC:=hid (Ch.alloc (Ch.refl (fun k=>k=gs∨k=gm) w) (cF ⟨0,[],0⟩));have hgs:=aj h.blk;have hgm:=h.book.lt;clear h;unfold bV;go_enter Tryz.func70,Tryz.ntmps70;go_upto_region 1 with fail
 generalize hw1:w.alloc (.cells #[.int .i64 0,.string ⟨#[]⟩,.int .i64 0] 119)=w1 at *;have hw2:w.alloc (cF ⟨0,[],0⟩)=w1:=hw1;rw [hw2] at HA HX HC;clear hw1 hw2;by_cases h5:5000<v.length
 ·have h5b:(5000:Int)<(v.length:Int):=by omega
  obtain ⟨b0,b1,b2,b3,b4,b5,b6⟩:=aF HX.out;simp only at b0 b1 b2;have HV:=hid (show (cH v).run s=(s,.err 47) by unfold cH;rw [if_pos h5];rfl);go_wp2_with fail;have hf:((((w1).setCell ⟨w.heap.size,0,none⟩ (.int .i64 (⟨0,[],0⟩:Ce).size)).setCell ⟨w.heap.size,1,none⟩ (.string ⟨#[]⟩)).setCell ⟨w.heap.size,2,none⟩ (.int .i64 (⟨0,[],0⟩:Ce).page)).heap[w.heap.size]?=some (cF ⟨0,[],0⟩):=ah (ah (ah HX.out 0 (.int .i64 (⟨0,[],0⟩:Ce).size)) 1 (.string ⟨#[]⟩)) 2 (.int .i64 (⟨0,[],0⟩:Ce).page);obtain ⟨q0,q1,q2,q3,-,-,-⟩:=aF (c:=⟨0,[],0⟩) hf;simp only at q0 q1 q2;have HC0:=hid (((Ch.refl (fun j=>j=w.heap.size) w1).setCell (p:=⟨w.heap.size,0,none⟩) rfl (.int .i64 (⟨0,[],0⟩:Ce).size)).setCell (p:=⟨w.heap.size,1,none⟩) rfl (.string ⟨#[]⟩) |>.setCell (p:=⟨w.heap.size,2,none⟩) rfl (.int .i64 (⟨0,[],0⟩:Ce).page))
  exact bodyPost_ret (v:=.tuple #[jj ⟨0,[],0⟩,.int .i64 47]) (by simp [results,Tryz.results70,go_sem,q0,q1,q2,jj]) rfl
   ⟨by rw [HV.out];rfl,by rw [HV.out];exact HA.out.ch HC0.out (by omega) (by omega),HC.out.then HC0.out (fun i e=>.inr (by omega))⟩
 ·have h5b:(v.length:Int)≤5000:=by omega
  by_cases h40:v.length≤40
  ·have h4b:(v.length:Int)≤40:=by omega
   obtain ⟨b0,b1,b2,b3,b4,b5,b6⟩:=aF HX.out;simp only at b0 b1 b2;have HV:=hid (show (cH v).run s=(s,.ok ⟨v.length,v,0⟩) by unfold cH;rw [if_neg h5,if_pos h40];rfl);go_wp2_with fail;have hf:((((w1).setCell ⟨w.heap.size,0,none⟩ (.int .i64 (⟨v.length,v,0⟩:Ce).size)).setCell ⟨w.heap.size,1,none⟩ (.string (al v))).setCell ⟨w.heap.size,2,none⟩ (.int .i64 (⟨v.length,v,0⟩:Ce).page)).heap[w.heap.size]?=some (cF ⟨v.length,v,0⟩):=ah (ah (ah HX.out 0 (.int .i64 (⟨v.length,v,0⟩:Ce).size)) 1 (.string (al v))) 2 (.int .i64 (⟨v.length,v,0⟩:Ce).page);obtain ⟨q0,q1,q2,q3,-,-,-⟩:=aF (c:=⟨v.length,v,0⟩) hf;simp only at q0 q1 q2;have HC0:=hid (((Ch.refl (fun j=>j=w.heap.size) w1).setCell (p:=⟨w.heap.size,0,none⟩) rfl (.int .i64 (⟨v.length,v,0⟩:Ce).size)).setCell (p:=⟨w.heap.size,1,none⟩) rfl (.string (al v)) |>.setCell (p:=⟨w.heap.size,2,none⟩) rfl (.int .i64 (⟨v.length,v,0⟩:Ce).page))
   exact bodyPost_ret (v:=.tuple #[jj ⟨v.length,v,0⟩,.int .i64 0]) (by simp [results,Tryz.results70,go_sem,q0,q1,q2,jj]) rfl
    ⟨by rw [HV.out];rfl,by rw [HV.out];exact HA.out.ch HC0.out (by omega) (by omega),HC.out.then HC0.out (fun i e=>.inr (by omega))⟩
  ·have h4b:(40:Int)<(v.length:Int):=by omega
   obtain ⟨q,hq⟩:∃ q,q=(v.length - 1) / 227:=⟨_,rfl⟩;have hq1:((v.length:Int) - 1).tdiv 227=(q:Int):=by rw [Int.tdiv_eq_ediv_of_nonneg (by omega)];omega
   have hq2:q≤22:=by omega
   have hq3:IntKind.i64.wrap ((q:Int) * 227)=(q:Int) * 227:=IntWalk.i64_in _ (by omega);go_wp2_with fail;obtain ⟨J,hJ⟩:∃ J,J=q+1:=⟨_,rfl⟩;have hJ2:(q:Int) * 227=(J:Int) * 227 - 227:=by omega
   have HV0:=hid (show cH v=(ix v J 0).bind fun p=>.pure ⟨v.length,[],p⟩ by unfold cH;rw [if_neg h5,if_neg h40,hJ,hq]);have HJ:=hid (show (J:Int) * 227≤v.length+226∧v.length≤J * 227∧J≤23 by omega);clear hJ;go_loopw [6,7] (fun nv iv wr=>∃ (j next:Nat) (s1:Sf),j≤J∧next<4096∧nv=.int .i64 next∧iv=.int .i64 ((j:Int) * 227 - 227)∧(ix v j next).run s1=(ix v J 0).run s∧ShIs wr gs gm s1∧Ch (fun k=>k=gs∨k=gm) w1 wr) (fun _ iv _=>(intOf iv+227).toNat)
   case atStart=>exact ⟨J,0,s,Nat.le_refl _,by decide,rfl,by rw [← hJ2];go_num,rfl,HA.out,Ch.refl _ _⟩
   case round=>
    obtain ⟨j,next,s1,hj,hn,rfl,rfl,hrun,hs,hch⟩:=hrel;have HRUN:=hid hrun;have HSR:=hid hs;have HCH:=hid hch;have HCR:=hid (HC.out.trans (hch.mono (fun _ _ e=>e)));have HXR:=hid (hch.keep HX.out (by omega));clear hrun hs hch;cases j with
    | zero=>
      have HV:=hid (show (cH v).run s=(s1,.ok ⟨v.length,[],next⟩) by rw [HV0.out];exact af (by rw [← HRUN.out];rfl));have HAR:=hid HSR.out;obtain ⟨b0,b1,b2,b3,b4,b5,b6⟩:=aF HXR.out;simp only at b0 b1 b2;go_wp2_with fail;have hf:((((wr).setCell ⟨w.heap.size,0,none⟩ (.int .i64 (⟨v.length,[],next⟩:Ce).size)).setCell ⟨w.heap.size,1,none⟩ (.string ⟨#[]⟩)).setCell ⟨w.heap.size,2,none⟩ (.int .i64 (⟨v.length,[],next⟩:Ce).page)).heap[w.heap.size]?=some (cF ⟨v.length,[],next⟩):=ah (ah (ah HXR.out 0 (.int .i64 (⟨v.length,[],next⟩:Ce).size)) 1 (.string ⟨#[]⟩)) 2 (.int .i64 (⟨v.length,[],next⟩:Ce).page);obtain ⟨q0,q1,q2,q3,-,-,-⟩:=aF (c:=⟨v.length,[],next⟩) hf;simp only at q0 q1 q2;have HC0:=hid (((Ch.refl (fun j=>j=w.heap.size) wr).setCell (p:=⟨w.heap.size,0,none⟩) rfl (.int .i64 (⟨v.length,[],next⟩:Ce).size)).setCell (p:=⟨w.heap.size,1,none⟩) rfl (.string ⟨#[]⟩) |>.setCell (p:=⟨w.heap.size,2,none⟩) rfl (.int .i64 (⟨v.length,[],next⟩:Ce).page))
      exact bodyPost_ret (v:=.tuple #[jj ⟨v.length,[],next⟩,.int .i64 0]) (by simp [results,Tryz.results70,go_sem,q0,q1,q2,jj]) rfl
       ⟨by rw [HV.out];rfl,by rw [HV.out];exact HAR.out.ch HC0.out (by omega) (by omega),HCR.out.then HC0.out (fun i e=>.inr (by omega))⟩
    | succ j=>
      have hjj:((j+1:Nat):Int) * 227 - 227=(j:Int) * 227:=by omega
      have hj2:=HJ.out;rw [hjj];have hi0:(0:Int)≤(j:Int) * 227:=by omega
      have hwA:IntKind.i64.wrap ((j:Int) * 227+227)=(j:Int) * 227+227:=IntWalk.i64_in _ (by omega);have HNB:=hid (rZ HSR.out.ok);go_wp2_with fail;refine (en gs gm s1 wr HSR.out).mono ?_;rintro e w5 ⟨rfl,hs5,hc5⟩;have HS5:=hid hs5;have HC5:=hid (HCR.out.trans hc5);have HX5:=hid (hc5.keep HXR.out (by omega));have HCS:=hid hc5;clear hs5 hc5;obtain ⟨b0,b1,b2,b3,b4,b5,b6⟩:=aF HX5.out;simp only at b0 b1 b2;by_cases hne:bj s1=0
      ·obtain ⟨at_,hat⟩:∃ a:Nat,bN s1=a:=⟨(bN s1).toNat,by have:=HNB.out;omega⟩;have hat4:at_<4096:=by have:=HNB.out;omega
       obtain ⟨pg,hpg⟩:∃ x,dV ((v.drop (j * 227)).take 227) next=x:=⟨_,rfl⟩
       obtain ⟨pe,hpe⟩:∃ x,hZ (aR s1) at_ pg=x:=⟨_,rfl⟩;obtain ⟨s3,hs3⟩:∃ x,iW (aR s1) at_ pg=x:=⟨_,rfl⟩;have HRR:=hid (show (ix v (j+1) next).run s1=if pe=0 then (ix v j at_).run s3 else (s3,.err pe) by
        show (if bj s1=0 then (if hZ (aR s1) (bN s1) (dV ((v.drop (j * 227)).take 227) next)=0 then _ else _) else _)=_;rw [if_pos hne,hat,hpg,hpe,hs3])
       have HPG:=hid hpg;have HPE:=hid hpe;have HPS:=hid hs3;clear hpg hpe hs3;rw [hat,hne];obtain ⟨m,hm⟩:∃ m,m=min (j * 227+227) v.length:=⟨_,rfl⟩;have hmin:min ((j:Int) * 227+227) (v.length:Int)=(m:Int):=by omega
       have hm1:(j:Int) * 227≤(m:Int):=by omega
       have hm2:(m:Int)≤(v.length:Int):=by omega
       have HE:=hid (show (al v).extract ((j:Int) * 227).toNat m=al ((v.drop (j * 227)).take 227) by
        rw [show ((j:Int) * 227).toNat=j * 227 by omega,cR,aW];congr 1;rw [hm];rcases Nat.le_total (j * 227+227) v.length with h | h
        ·rw [Nat.min_eq_left h,Nat.add_sub_cancel_left]
        ·rw [Nat.min_eq_right h,List.take_of_length_le (by rw [List.length_drop];omega),List.take_of_length_le (by rw [List.length_drop];omega)])
       have hpl:((v.drop (j * 227)).take 227).length≤227:=by rw [List.length_take];omega
       clear hm;have hme:=fun w=>sd ⟨gs,0,none⟩ w
       have hna:=fun w=>rX ⟨gs,0,none⟩ w
       have hmf:∀ (fn:Fn) (first cap:Array Value) (w:World),(Instr.makeFunc fn first cap).run Tryz.prog w=.ok (.func fn first cap) w:=fun _ _ _ _=>rfl
       go_upto_region 12 with fail
       go_region_law (first
        | (go_simp
           go_at_call 124;rw [HE.out];refine (qP ((v.drop (j * 227)).take 227) next _ hpl (by omega)).mono ?_;rw [HPG.out];rintro e w6 ⟨rfl,hb⟩;have HS6:=hid (HS5.out.ch (S:=fun _=>False) (((Ch.refl (fun _=>False) w5).drew).trans (Ch.of_below hb)) id id);have HC6:=hid ((Ch.refl (fun k=>k=gs∨k=gm) w5).drew.trans (Ch.of_below hb));clear hb)
        | (go_simp
           go_at_call 19;refine (jS at_ (al pg) gs gm (aR s1) _ HS6.out).mono ?_;rw [aW,HPE.out,HPS.out];rintro e w7 ⟨rfl,hs,hc⟩;have HS7:=hid hs;have HC7:=hid (HC6.out.trans hc);clear hs hc))
       all_goals
        have HCZ:=hid (HC5.out.trans (HC7.out.mono (fun _ _ e=>e)));have HCY:=hid (((HCH.out.trans HCS.out).trans HC7.out));have HXZ:=hid (HC7.out.keep HX5.out (by omega));clear b0 b1 b2 b3 b4 b5 b6 HC6 HC7 HS6 hna hme hmf hmin hm1 hm2 hwA;by_cases hpz:pe=0
        ·have HRY:=hid (show (ix v j at_).run s3=(ix v J 0).run s by rw [← HRUN.out,HRR.out,if_pos hpz]);subst hpz;clear HRR;go_wp2_with fail;go_roundw
         case rel=>exact ⟨j,at_,s3,by omega,hat4,rfl,by go_num,HRY.out,HS7.out,HCY.out⟩
         case measure=>simp [intOf];omega
        ·have HV:=hid (show (cH v).run s=(s3,.err pe) by
          rw [HV0.out];refine ak ?_;rw [← HRUN.out,HRR.out,if_neg hpz])
         have hpz2:(pe == 0)=false:=by simpa using hpz
         have HAZ:=hid HS7.out;clear HRR;obtain ⟨b0,b1,b2,b3,b4,b5,b6⟩:=aF HXZ.out;simp only at b0 b1 b2;go_wp2_with fail;have hf:((((w7).setCell ⟨w.heap.size,0,none⟩ (.int .i64 (⟨0,[],0⟩:Ce).size)).setCell ⟨w.heap.size,1,none⟩ (.string ⟨#[]⟩)).setCell ⟨w.heap.size,2,none⟩ (.int .i64 (⟨0,[],0⟩:Ce).page)).heap[w.heap.size]?=some (cF ⟨0,[],0⟩):=ah (ah (ah HXZ.out 0 (.int .i64 (⟨0,[],0⟩:Ce).size)) 1 (.string ⟨#[]⟩)) 2 (.int .i64 (⟨0,[],0⟩:Ce).page);obtain ⟨q0,q1,q2,q3,-,-,-⟩:=aF (c:=⟨0,[],0⟩) hf;simp only at q0 q1 q2;have HC0:=hid (((Ch.refl (fun j=>j=w.heap.size) w7).setCell (p:=⟨w.heap.size,0,none⟩) rfl (.int .i64 (⟨0,[],0⟩:Ce).size)).setCell (p:=⟨w.heap.size,1,none⟩) rfl (.string ⟨#[]⟩) |>.setCell (p:=⟨w.heap.size,2,none⟩) rfl (.int .i64 (⟨0,[],0⟩:Ce).page))
         exact bodyPost_ret (v:=.tuple #[jj ⟨0,[],0⟩,.int .i64 pe]) (by simp [results,Tryz.results70,go_sem,q0,q1,q2,jj]) rfl
          ⟨by rw [HV.out];rfl,by rw [HV.out];exact HAZ.out.ch HC0.out (by omega) (by omega),HCZ.out.then HC0.out (fun i e=>.inr (by omega))⟩
      ·have HV:=hid (show (cH v).run s=(aR s1,.err (bj s1)) by
        rw [HV0.out];refine ak ?_;rw [← HRUN.out];show (if bj s1=0 then _ else _)=_;rw [if_neg hne])
       generalize bj s1=ne at *;generalize bN s1=nn at *;generalize aR s1=s2 at *;have hne2:(ne == 0)=false:=by simpa using hne
       have HA5:=hid HS5.out;go_wp2_with fail;have hf:((((w5).setCell ⟨w.heap.size,0,none⟩ (.int .i64 (⟨0,[],0⟩:Ce).size)).setCell ⟨w.heap.size,1,none⟩ (.string ⟨#[]⟩)).setCell ⟨w.heap.size,2,none⟩ (.int .i64 (⟨0,[],0⟩:Ce).page)).heap[w.heap.size]?=some (cF ⟨0,[],0⟩):=ah (ah (ah HX5.out 0 (.int .i64 (⟨0,[],0⟩:Ce).size)) 1 (.string ⟨#[]⟩)) 2 (.int .i64 (⟨0,[],0⟩:Ce).page);obtain ⟨q0,q1,q2,q3,-,-,-⟩:=aF (c:=⟨0,[],0⟩) hf;simp only at q0 q1 q2;have HC0:=hid (((Ch.refl (fun j=>j=w.heap.size) w5).setCell (p:=⟨w.heap.size,0,none⟩) rfl (.int .i64 (⟨0,[],0⟩:Ce).size)).setCell (p:=⟨w.heap.size,1,none⟩) rfl (.string ⟨#[]⟩) |>.setCell (p:=⟨w.heap.size,2,none⟩) rfl (.int .i64 (⟨0,[],0⟩:Ce).page))
       exact bodyPost_ret (v:=.tuple #[jj ⟨0,[],0⟩,.int .i64 ne]) (by simp [results,Tryz.results70,go_sem,q0,q1,q2,jj]) rfl
        ⟨by rw [HV.out];rfl,by rw [HV.out];exact HA5.out.ch HC0.out (by omega) (by omega),HC5.out.then HC0.out (fun i e=>.inr (by omega))⟩
theorem ic (l:By):l.dropWhile (· == 0)=[]↔cn l=true:=by
 unfold cn
 induction l with
 | nil=>simp
 | cons a r ih=>
   by_cases h:a=0
   ·subst h;simpa [List.dropWhile_cons] using ih
   ·simp [h]
theorem fE (l:By):cn l.reverse=cn l:=by unfold cn;rw [List.all_reverse]
theorem nT {l:By}:Lib.trimB l 0=[]↔cn l=true:=by
 unfold Lib.trimB Lib.trimLeftB Lib.trimRightB;rw [ic,fE,← fE l,← ic l.reverse];constructor
 ·intro h;rw [ic,fE];generalize hm:l.reverse=m at h;rw [show l=m.reverse by rw [← hm,List.reverse_reverse],fE];clear hm
  induction m with
  | nil=>rfl
  | cons a r ih=>
    by_cases ha:a=0
    ·subst ha;rw [List.dropWhile_cons,if_pos (by rfl)] at h;have:=ih h;unfold cn at this ⊢;simpa using this
    ·rw [List.dropWhile_cons,if_neg (by simpa using ha)] at h;exact h
 ·intro h;rw [h];rfl
theorem rU {l:By} (h:l.length=232):Lib.hasPrefix l [3]=decide (l.getD 0 0=3):=by
 cases l with
 | nil=>simp at h
 | cons a r=>
   by_cases e:a=3
   ·subst e;simp [Lib.hasPrefix,List.isPrefixOf]
   ·simp [Lib.hasPrefix,List.isPrefixOf,e];exact fun h=>e h.symm
theorem pX (c:Ce):aB ⟨true,[[]],[c],[]⟩=aE c:=by unfold aB;cases hg:aE c <;> simp [aO,hg]
theorem qg (c:Ce) (w:World) (hl:c.data.length≤100000):Calls Tryz.prog 161 #[.agg #[.int .i64 c.size,.string (al c.data),.int .i64 c.page]] w fun e w'=>e=.returned (.bool (aE c))∧Below w.heap.size w w':=by
 have HX:=hid (ag (w0:=w) (g:=w.heap.size) (o:=cF c) rfl);have HB:=hid ((Below.refl _ w).alloc (Nat.le_refl _) (cF c));have hsz:(w.alloc (cF c)).heap.size=w.heap.size+1:=by simp
 have HZ:=hid hsz;clear hsz;go_enter Tryz.func161,Tryz.ntmps161;go_upto_region 1 with fail
 generalize hw1:w.alloc (.cells #[.int .i64 c.size,.string (al c.data),.int .i64 c.page] 119)=w1 at *;have hw2:w.alloc (cF c)=w1:=hw1;rw [hw2] at HX HB HZ;clear hw1 hw2;obtain ⟨b0,b1,b2,b3,b4,b5,b6⟩:=aF HX.out;go_wp2_with fail;have HK:=hid (show NdV ((w1.alloc (.cells #[.string ⟨#[]⟩] 9)).alloc (.cells #[.int .i64 c.size,.string (al c.data),.int .i64 c.page] 119)) (.agg #[.bool true,.slice (some ⟨w1.heap.size,0,none⟩) 1 1,.slice (some ⟨w1.heap.size+1,0,none⟩) 1 1,.slice none 0 0]) ⟨true,[[]],[c],[]⟩ from
  ⟨_,_,_,rfl,(Sl.one [] rfl aP rfl).keep ((Below.refl _ _).alloc (Nat.le_refl _) _),Sl.one c (by simp) bu rfl,(Own.nil (e:=3) (base:=0)).sl aA⟩)
 have HB2:=hid ((HB.out.alloc (by rw [HZ.out];omega) (.cells #[.string ⟨#[]⟩] 9)).alloc (by simp;rw [HZ.out];omega) (.cells #[.int .i64 c.size,.string (al c.data),.int .i64 c.page] 119));refine (iy _ _ _ HK.out ⟨by simp,by simp,by simp,by simp,by simpa using hl⟩).mono ?_;rw [pX];rintro e w2 ⟨rfl,hb⟩;have HB3:=hid (HB2.out.trans (hb.mono HB2.out.size));clear hb;go_wp2_with fail;go_ret;exact ⟨rfl,HB3.out⟩
theorem BuR.le {B b:Nat} {l:List UInt8} {r:Option Nat} {w:World} (h:BuR B b l r w):∀ k,r=some k→B≤k:=by
 obtain ⟨hB,p,u,hp,hb,hu,hn,hr⟩:=h;intro k hk;rw [← hr] at hk;rcases hu.2 with ⟨hv2,_⟩ | ⟨g2,cap2,cur2,hv2,hg,_⟩
 ·rw [hv2] at hk;simp [Value.ownBlock] at hk
 ·rw [hv2] at hk;have:g2=k:=by simpa [Value.ownBlock] using hk
  omega
theorem iu (p:Pro (By × List Int)) (s:Sf):(p.bind fun x=>.pure ([] ++ x.1,[] ++ x.2)).run s=p.run s:=by rw [run_bind];simp only [List.nil_append];generalize hx:p.run s=x;obtain ⟨s2,a⟩:=x;cases a <;> rfl
theorem jo (p:Pro (By × List Int)) (acc pt:By) (ps:List Int) (a:Int) (s:Sf):
  ((p.bind fun r=>.pure (pt ++ r.1,a :: r.2)).bind fun x=>.pure (acc ++ x.1,ps ++ x.2)).run s=(p.bind fun x=>.pure ((acc ++ pt) ++ x.1,(ps ++ [a]) ++ x.2)).run s:=by
 rw [run_bind,run_bind,run_bind];generalize p.run s=x;obtain ⟨s2,b⟩:=x;cases b with
 | ok v=>simp [Pro.run]
 | err e=>rfl
def sP (base:Nat) (w:World) (e:Ending):Ans (By × List Int)→Prop
 | .ok (d,ps)=>∃ vl,e=.returned (.tuple #[.string (al d),vl,.int .i64 0])∧Own iC 1 3 base w vl ps
 | .err x=>e=.returned (.tuple #[.string ⟨#[]⟩,.slice none 0 0,.int .i64 x])
theorem mr (c:Ce) (gs gm:Nat) (s:Sf) (w:World) (h:ShIs w gs gm s) (hl:c.data.length≤100000):
  Calls Tryz.prog 112 #[bV gs,jj c] w fun e w'=>sP w.heap.size w' e ((bb c).run s).2∧ShIs w' gs gm ((bb c).run s).1∧Ch (fun k=>k=gs∨k=gm) w w':=by
 have HA:=hid (h.ch (S:=fun _=>False) (Ch.alloc (Ch.refl _ w) (cF c)) id id);have HX:=hid (ag (w0:=w) (g:=w.heap.size) (o:=cF c) rfl);have HC:=hid (Ch.alloc (Ch.refl (fun k=>k=gs∨k=gm) w) (cF c));have hgs:=aj h.blk;have hgm:=h.book.lt;clear h;unfold bV jj;go_enter Tryz.func112,Tryz.ntmps112;go_upto_region 1 with fail
 generalize hw1:w.alloc (.cells #[.int .i64 c.size,.string (al c.data),.int .i64 c.page] 119)=w1 at *;have hw2:w.alloc (cF c)=w1:=hw1;rw [hw2] at HA HX HC;clear hw1 hw2;obtain ⟨b0,b1,b2,b3,b4,b5,b6⟩:=aF HX.out;go_wp2_with fail;refine (qg c w1 hl).mono ?_;rintro e w2 ⟨rfl,hb⟩;have HA2:=hid (HA.out.ch (S:=fun _=>False) (Ch.of_below hb) id id);have HX2:=hid (ae HX.out hb);have HC2:=hid (HC.out.trans (Ch.of_below hb));clear hb b0 b1 b2 b3 b4 b5 b6;obtain ⟨b0,b1,b2,b3,b4,b5,b6⟩:=aF HX2.out;cases hg:aE c
 ·have HV:=hid (show (bb c).run s=(s,.err 1) by unfold bb;rw [if_pos hg];rfl);go_wp2_with fail;go_ret3;rw [HV.out];exact ⟨rfl,HA2.out,HC2.out⟩
 ·by_cases hp:c.page=0
  ·have HV:=hid (show (bb c).run s=(s,.ok (c.data,[])) by unfold bb;rw [if_neg (by rw [hg];simp),if_pos hp];rfl);rw [hp] at b2;go_wp2_with fail;go_ret3;rw [HV.out];exact ⟨⟨_,rfl,Own.nil⟩,HA2.out,HC2.out⟩
  ·have hpb:(c.page == 0)=false:=by simpa using hp
   have HV0:=hid (show bb c=jw 23 c.size.toNat c.page by unfold bb;rw [if_neg (by rw [hg];simp),if_neg hp]);have HXB:=hid (ag (w0:=w2) (g:=w2.heap.size) (o:=.cells #[.pointer none,.slice none 0 0] 206) rfl);have HA3:=hid (HA2.out.ch (S:=fun _=>False) (Ch.alloc (Ch.refl _ w2) (.cells #[.pointer none,.slice none 0 0] 206)) id id);have HX3:=hid (ai HX2.out (.cells #[.pointer none,.slice none 0 0] 206));have HC3:=hid (Ch.alloc HC2.out (.cells #[.pointer none,.slice none 0 0] 206));have hs2:w.heap.size≤w2.heap.size:=HC2.out.size;go_upto_region 6 with fail
   generalize w2.alloc (.cells #[.pointer none,.slice none 0 0] 206)=w3 at *;generalize w2.heap.size=gb at *;have HBU:=hid (BuR.new HXB.out hs2);clear b0 b1 b2 b3 b4 b5 b6;obtain ⟨b0,b1,b2,b3,b4,b5,b6⟩:=aF HX3.out;have hcs:40<c.size∧c.size≤5000:=by
    unfold aE at hg
    split at hg
    ·cases hg
    ·split at hg
     ·simp only [Bool.and_eq_true,decide_eq_true_eq] at hg;exact absurd hg.2 hp
     ·omega
   go_wp2_with fail
   go_loopw [8,9,10] (fun lv av iv wr=>∃ (f:Nat) (li at_:Int) (acc:By) (ps:List Int) (s1:Sf) (r:Option Nat),iv=.int .i64 li∧-227≤li∧li≤5000∧av=.int .i64 at_∧f≤23∧li≤(f:Int) * 227∧acc.length+f * 227≤5221∧ps.length+f≤23∧(acc=[]→0<li)∧
    (bb c).run s=((jw f li.toNat at_).bind fun x=>.pure (acc ++ x.1,ps ++ x.2)).run s1∧BuR w.heap.size gb acc r wr∧Own iC 1 3 w.heap.size wr lv ps∧ShIs wr gs gm s1∧Ch (fun k=>k=gs∨k=gm) w wr) (fun _ _ iv _=>(intOf iv).toNat)
   case atStart=>exact ⟨23,c.size,c.page,[],[],s,none,rfl,by omega,by omega,rfl,by omega,by omega,by simp,by simp,fun _=>by omega,by rw [HV0.out];exact (iu _ _).symm,HBU.out,Own.nil,HA3.out,HC3.out⟩
   case round=>
    obtain ⟨f,li,at_,acc,ps,s1,r,rfl,hl0,hl1,rfl,hf,hlf,hac,hps,hna,hrun,hbu,ho,hs,hch⟩:=hrel;have HRUN:=hid hrun;have HBR:=hid hbu;have HO:=hid ho;have HS:=hid hs;have HCH:=hid hch;have HG:=hid (hch.size);obtain ⟨A8,c8,rfl⟩:=Sl.len' (ho.sl aA);clear hrun hbu ho hs hch HBU;by_cases hz:0<li
    ·cases f with
     | zero=>omega
     | succ f=>
       have hl232:=HS.out.ok.l at_
       have HR1:=hid (show jw (f+1) li.toNat at_=.get at_ fun l=>match eP l li.toNat with
         | none=>.fail 30
         | some (next,part)=>(jw f (li.toNat - 227) next).bind fun r=>.pure (part ++ r.1,at_ :: r.2) by
        show (if li.toNat=0 then _ else _)=_;rw [if_neg (by omega)];rfl)
       go_wp2_with fail;refine (mD at_ gs gm s1 wr HS.out).mono ?_;rintro e w5 ⟨rfl,hs5,hc5⟩;have HS5:=hid hs5;have HCH5:=hid (HCH.out.trans (hc5.mono (fun _ _ e=>.inl e)));have HBR5:=hid (HBR.out.ch hc5 (by have:=HBR.out.1;omega) (fun k hk e=>by have:=HBR.out.le k hk;omega));have HO5:=hid (HO.out.ch hc5 (fun k hk e=>by have:=(HO.out.lt k hk).1;omega));clear hs5 hc5;by_cases hbe:bc s1 at_=0
       ·have HGV:=hid (show fS s1 at_=s1.B at_ by unfold fS;rw [if_pos hbe]);rw [HGV.out,hbe];obtain ⟨l,hbl⟩:∃ l,s1.B at_=l:=⟨_,rfl⟩;rw [hbl] at hl232 ⊢;have HBL:=hid hbl;clear hbl;have s9:=aq l;rw [hl232] at s9;have HE15:=hid (show (al l).extract 1 5=al ((l.drop 1).take 4) by rw [cR,aW]);have HE5:=hid (show (al l).extract 5 232=al (l.drop 5) by rw [cR,aW,List.take_of_length_le (by rw [List.length_drop];omega)]);have hL4:((l.drop 1).take 4).length=4:=by rw [List.length_take,List.length_drop];omega
        go_wp2_with fail;rw [HE15.out];refine (eW (al ((l.drop 1).take 4)) w5 (by rw [aq,hL4];decide) (by rw [aq,hL4];decide)).mono ?_;rw [aW];rintro e w6 ⟨rfl,hb⟩;have HS6:=hid (HS5.out.ch (S:=fun _=>False) (Ch.of_below hb) id id);have HBR6:=hid (HBR5.out.ch (S:=fun _=>False) (Ch.of_below hb) id (fun _ _=>id));have HO6:=hid (HO5.out.below hb);have HCH6:=hid (HCH5.out.trans (Ch.of_below hb));have hun:bM ((l.drop 1).take 4)<4294967296:=by have:=fH ((l.drop 1).take 4);rw [hL4] at this;exact this
        clear hb hL4;have HLK:=hid (show eP l li.toNat=if l.getD 0 0=3∧((bM ((l.drop 1).take 4)=0)↔li.toNat≤227)∧cn ((l.drop 5).drop li.toNat)=true then some ((bM ((l.drop 1).take 4):Int),(l.drop 5).take li.toNat) else none from rfl);generalize bM ((l.drop 1).take 4)=nx at *;have s8:=aq (l.drop 5);have hd5:(l.drop 5).length=227:=by rw [List.length_drop];omega
        rw [hd5] at s8;have HP9:=hid (show (al (l.drop 5)).extract 0 li.toNat=al ((l.drop 5).take li.toNat) by rw [cR,aW,List.drop_zero,Nat.sub_zero]);have HQ9:=hid (show (al (l.drop 5)).extract li.toNat 227=al ((l.drop 5).drop li.toNat) by rw [cR,aW,List.take_of_length_le (by rw [List.length_drop,hd5];omega)]);have HD5:=hid hd5;clear hd5;go_upto_if 53 with fail
        rw [HE5.out];go_cut [15,16] from 54 to 59 (fun p q wc=>p=.string (al ((l.drop 5).take li.toNat))∧q=.string (al ((l.drop 5).drop li.toNat))∧(wc=w6∨wc=w6.drew))
        case first=>
         by_cases h227:li<227
         ·go_upto_region 17 with fail
          go_region
          all_goals
           go_wp2_with fail;go_meet
           case rel=>exact ⟨by rw [← HP9.out];try rfl,by rw [← HQ9.out];try rfl,.inr rfl⟩
         ·have HPP:=hid (show (l.drop 5).take li.toNat=l.drop 5∧(l.drop 5).drop li.toNat=[] from ⟨List.take_of_length_le (by rw [HD5.out];omega),List.drop_eq_nil_of_le (by rw [HD5.out];omega)⟩);go_wp2_with fail;go_meet
          case rel=>rw [HPP.out.1,HPP.out.2];exact ⟨rfl,rfl,.inl rfl⟩
        case rest=>
         obtain ⟨rfl,rfl,hwc⟩:=hcut;have hbc:Below w6.heap.size w6 wc:=by
          rcases hwc with rfl | rfl
          ·exact Below.refl _ _
          ·exact (Below.refl _ _).drew
         have HS7:=hid (HS6.out.ch (S:=fun _=>False) (Ch.of_below hbc) id id);have HBR7:=hid (HBR6.out.ch (S:=fun _=>False) (Ch.of_below hbc) id (fun _ _=>id));have HO7:=hid (HO6.out.below hbc);have HCH7:=hid (HCH6.out.trans (Ch.of_below hbc));clear hbc hwc;have HPF:=hid (show Lib.hasPrefix (al l).data.toList ({ data:=#[3] }:ByteArray).data.toList=decide (l.getD 0 0=3) from rU hl232);have s7:=aq ((l.drop 5).drop li.toNat);have hr7:((l.drop 5).drop li.toNat).length≤227:=by rw [List.length_drop,HD5.out];omega
         have HTR:=hid (nT (l:=(l.drop 5).drop li.toNat));have HPL:=hid (show ((l.drop 5).take li.toNat).length≤227∧((l.drop 5).take li.toNat≠[]) by
          refine ⟨by rw [List.length_take,HD5.out];omega,fun e=>?_⟩;have:=congrArg List.length e;rw [List.length_take,HD5.out] at this;simp at this;omega)
         have HRB:=hid (show eP l li.toNat=none→(bb c).run s=(bl s1,.err 30) from fun hn=>by
          rw [HRUN.out];refine ak ?_;rw [HR1.out];show (if bc s1 at_=0 then _ else _)=_;rw [if_pos hbe,HBL.out];simp only [hn];rfl)
         have HRG:=hid (show eP l li.toNat=some ((nx:Int),(l.drop 5).take li.toNat)→(bb c).run s=((jw f (li.toNat - 227) nx).bind fun x=>.pure ((acc ++ (l.drop 5).take li.toNat) ++ x.1,(ps ++ [at_]) ++ x.2)).run (bl s1) from fun hn=>by
          rw [HRUN.out,HR1.out];show (if bc s1 at_=0 then _ else _)=_;rw [if_pos hbe,HBL.out];simp only [hn];exact jo _ _ _ _ _ _)
         generalize (l.drop 5).take li.toNat=pt at *;generalize (l.drop 5).drop li.toNat=rs at *;go_wp2_with fail;refine (Tryz.strings_HasPrefix (al l) ⟨#[3]⟩ _).mono ?_;rw [HPF.out];rintro e w7 ⟨rfl,rfl⟩;by_cases h3:l.getD 0 0=3
         ·rw [decide_eq_true h3];have HTR2:=hid (show Lib.trimB (al rs).data.toList 0=Lib.trimB rs 0 from rfl);by_cases hn0:nx=0 <;> by_cases hle:li≤227
          ·have HX3':=hid (show (nx=0↔li.toNat≤227) from ⟨fun _=>by omega,fun _=>hn0⟩);subst hn0;go_wp2_with fail;refine (Tryz.strings_Trim_one (al rs) 0 (by decide) w7 (by rw [s7];omega)).mono ?_;rw [HTR2.out];have HTQ:=hid (HTR.out);clear HTR HTR2;generalize Lib.trimB rs 0=tr at *;rintro e w8 ⟨rfl,hw⟩;have hbc:Below w7.heap.size w7 w8:=by
            rcases hw with rfl | rfl
            ·exact Below.refl _ _
            ·exact (Below.refl _ _).drew
           have HS8:=hid (HS7.out.ch (S:=fun _=>False) (Ch.of_below hbc) id id);have HBR8:=hid (HBR7.out.ch (S:=fun _=>False) (Ch.of_below hbc) id (fun _ _=>id));have HO8:=hid (HO7.out.below hbc);have HCH8:=hid (HCH7.out.trans (Ch.of_below hbc));clear hbc hw;cases tr with
           | nil=>
             have HRX:=hid (HRG.out (by rw [HLK.out,if_pos ⟨h3,HX3'.out,HTQ.out.1 rfl⟩]));go_wp2_with fail;refine (kT w.heap.size gb acc pt r w8 HBR8.out (by omega) (by have:=HPL.out.1;omega) HCH8.out.size).mono ?_;rintro e w9 ⟨rfl,⟨r9,hb9⟩,hc9⟩;have HBR9:=hid hb9;have HS9:=hid (HS8.out.ch hc9 (fun e=>by rcases e with e | e;(have:=HBR8.out.1;omega);(have:=HBR8.out.le _ e;omega)) (fun e=>by rcases e with e | e;(have:=HBR8.out.1;omega);(have:=HBR8.out.le _ e;omega)));have HO9:=hid (HO8.out.ch hc9 (fun k hk e=>by have:=HBR8.out.far HO8.out k hk;rcases e with e | e;exact this.1 e;exact this.2 e));have HCH9:=hid (HCH8.out.then hc9 (fun i e=>.inr (by rcases e with e | e;(have:=HBR8.out.1;omega);exact HBR8.out.le _ e)));clear hb9 hc9;go_wp2_with (at_builtin;refine Hid.out ?_);refine hid ?_;refine am rfl rfl bt rfl rfl (HO9.out.alloc _) (Sl.one at_ (by simp) aA rfl) (by simp [maxLen];omega) (by simp;omega) (by have:=HCH9.out.size;simp;omega) ?_;intro v' w10 ho hg hat;have hfar:=HBR9.out.far HO9.out;have hc10:=Ch.of_grown (S:=fun k=>(Value.slice A8 ps.length c8).ownBlock=some k) hg (fun k hk=>hk);have hlow:∀ k,(Value.slice A8 ps.length c8).ownBlock=some k→w.heap.size≤k:=fun k hk=>(HO9.out.lt k hk).1
             have HO10:=hid ho;have HCA:=hid ((Ch.refl (fun k=>(Value.slice A8 ps.length c8).ownBlock=some k) w9).alloc (.cells #[.int .i64 at_] 3) |>.trans (hc10.mono (fun _ _ e=>e)));have HS10:=hid (HS9.out.ch HCA.out (fun e=>by have:=hlow _ e;omega) (fun e=>by have:=hlow _ e;omega));have HBR10:=hid (HBR9.out.ch HCA.out (fun e=>(hfar _ e).1 rfl) (fun k hk e=>(hfar _ e).2 hk));have HCH10:=hid (HCH9.out.then HCA.out (fun i e=>.inr (hlow _ e)));clear ho hg hat hfar hc10 hlow;go_wp2_with fail;go_roundw
             case rel=> exact ⟨f,li - 227,0,acc ++ pt,ps ++ [at_],bl s1,r9,by go_num,by omega,by omega,by go_num,by omega,by omega,by rw [List.length_append];have:=HPL.out.1;omega,by rw [List.length_append,List.length_singleton];omega,fun e=>absurd (List.append_eq_nil_iff.1 e).2 HPL.out.2,by rw [show (li - 227).toNat=li.toNat - 227 by omega];exact HRX.out,HBR10.out,HO10.out,HS10.out,HCH10.out⟩
             case measure=>simp [intOf];omega
           | cons a tr=> have HV:=hid (HRB.out (by rw [HLK.out,if_neg (fun h=>by have:=HTQ.out.2 h.2.2;cases this)]));go_wp2_with fail;go_ret3;rw [HV.out];exact ⟨rfl,HS8.out,HCH8.out⟩
          ·have HV:=hid (HRB.out (by rw [HLK.out,if_neg (fun h=>by have:=h.2.1.1 hn0;omega)]));subst hn0;have hlt:227<li:=by omega
           go_wp2_with fail;go_ret3;rw [HV.out];exact ⟨rfl,HS7.out,HCH7.out⟩
          ·have HV:=hid (HRB.out (by rw [HLK.out,if_neg (fun h=>hn0 (h.2.1.2 (by omega)))]));have hn1:((nx:Int) == 0)=false:=by simpa using hn0
           go_wp2_with fail;go_ret3;rw [HV.out];exact ⟨rfl,HS7.out,HCH7.out⟩
          ·have HX3':=hid (show (nx=0↔li.toNat≤227) from ⟨fun h=>absurd h hn0,fun h=>by omega⟩);have hn1:((nx:Int) == 0)=false:=by simpa using hn0
           have hlt:227<li:=by omega
           go_wp2_with fail;refine (Tryz.strings_Trim_one (al rs) 0 (by decide) w7 (by rw [s7];omega)).mono ?_;rw [HTR2.out];have HTQ:=hid (HTR.out);clear HTR HTR2;generalize Lib.trimB rs 0=tr at *;rintro e w8 ⟨rfl,hw⟩;have hbc:Below w7.heap.size w7 w8:=by
            rcases hw with rfl | rfl
            ·exact Below.refl _ _
            ·exact (Below.refl _ _).drew
           have HS8:=hid (HS7.out.ch (S:=fun _=>False) (Ch.of_below hbc) id id);have HBR8:=hid (HBR7.out.ch (S:=fun _=>False) (Ch.of_below hbc) id (fun _ _=>id));have HO8:=hid (HO7.out.below hbc);have HCH8:=hid (HCH7.out.trans (Ch.of_below hbc));clear hbc hw;cases tr with
           | nil=>
             have HRX:=hid (HRG.out (by rw [HLK.out,if_pos ⟨h3,HX3'.out,HTQ.out.1 rfl⟩]));go_wp2_with fail;refine (kT w.heap.size gb acc pt r w8 HBR8.out (by omega) (by have:=HPL.out.1;omega) HCH8.out.size).mono ?_;rintro e w9 ⟨rfl,⟨r9,hb9⟩,hc9⟩;have HBR9:=hid hb9;have HS9:=hid (HS8.out.ch hc9 (fun e=>by rcases e with e | e;(have:=HBR8.out.1;omega);(have:=HBR8.out.le _ e;omega)) (fun e=>by rcases e with e | e;(have:=HBR8.out.1;omega);(have:=HBR8.out.le _ e;omega)));have HO9:=hid (HO8.out.ch hc9 (fun k hk e=>by have:=HBR8.out.far HO8.out k hk;rcases e with e | e;exact this.1 e;exact this.2 e));have HCH9:=hid (HCH8.out.then hc9 (fun i e=>.inr (by rcases e with e | e;(have:=HBR8.out.1;omega);exact HBR8.out.le _ e)));clear hb9 hc9;go_wp2_with (at_builtin;refine Hid.out ?_);refine hid ?_;refine am rfl rfl bt rfl rfl (HO9.out.alloc _) (Sl.one at_ (by simp) aA rfl) (by simp [maxLen];omega) (by simp;omega) (by have:=HCH9.out.size;simp;omega) ?_;intro v' w10 ho hg hat;have hfar:=HBR9.out.far HO9.out;have hc10:=Ch.of_grown (S:=fun k=>(Value.slice A8 ps.length c8).ownBlock=some k) hg (fun k hk=>hk);have hlow:∀ k,(Value.slice A8 ps.length c8).ownBlock=some k→w.heap.size≤k:=fun k hk=>(HO9.out.lt k hk).1
             have HO10:=hid ho;have HCA:=hid ((Ch.refl (fun k=>(Value.slice A8 ps.length c8).ownBlock=some k) w9).alloc (.cells #[.int .i64 at_] 3) |>.trans (hc10.mono (fun _ _ e=>e)));have HS10:=hid (HS9.out.ch HCA.out (fun e=>by have:=hlow _ e;omega) (fun e=>by have:=hlow _ e;omega));have HBR10:=hid (HBR9.out.ch HCA.out (fun e=>(hfar _ e).1 rfl) (fun k hk e=>(hfar _ e).2 hk));have HCH10:=hid (HCH9.out.then HCA.out (fun i e=>.inr (hlow _ e)));clear ho hg hat hfar hc10 hlow;go_wp2_with fail;go_roundw
             case rel=> exact ⟨f,li - 227,nx,acc ++ pt,ps ++ [at_],bl s1,r9,by go_num,by omega,by omega,by go_num,by omega,by omega,by rw [List.length_append];have:=HPL.out.1;omega,by rw [List.length_append,List.length_singleton];omega,fun e=>absurd (List.append_eq_nil_iff.1 e).2 HPL.out.2,by rw [show (li - 227).toNat=li.toNat - 227 by omega];exact HRX.out,HBR10.out,HO10.out,HS10.out,HCH10.out⟩
             case measure=>simp [intOf];omega
           | cons a tr=> have HV:=hid (HRB.out (by rw [HLK.out,if_neg (fun h=>by have:=HTQ.out.2 h.2.2;cases this)]));go_wp2_with fail;go_ret3;rw [HV.out];exact ⟨rfl,HS8.out,HCH8.out⟩
         ·have HV:=hid (HRB.out (by rw [HLK.out,if_neg (fun h=>h3 h.1)]));rw [decide_eq_false h3];go_wp2_with fail;go_ret3;rw [HV.out];exact ⟨rfl,HS7.out,HCH7.out⟩
       ·have HV:=hid (show (bb c).run s=(bl s1,.err (bc s1 at_)) by
         rw [HRUN.out];refine ak ?_;rw [HR1.out];show (if bc s1 at_=0 then _ else _)=_;rw [if_neg hbe])
        generalize bc s1 at_=be at *;generalize bl s1=s2 at *;have hbe2:(be == 0)=false:=by simpa using hbe
        go_wp2_with fail;go_ret3;rw [HV.out];exact ⟨rfl,HS5.out,HCH5.out⟩
    ·have HV:=hid (show (bb c).run s=(s1,.ok (acc,ps)) by
      rw [HRUN.out];have h0:jw f li.toNat at_=.pure ([],[]):=by
       cases f with
       | zero=>rfl
       | succ f=>show (if li.toNat=0 then _ else _)=_;rw [if_pos (by omega)]
      rw [h0];simp [Pro.bind,Pro.run])
     have hne:acc≠[]:=fun e=>hz (hna e)
     go_wp2_with fail;refine (qm w.heap.size gb acc r wr HBR.out hne).mono ?_;rintro e w5 ⟨rfl,hc⟩;have HS5:=hid (HS.out.ch hc (fun e=>by have:=HBR.out.le _ e;omega) (fun e=>by have:=HBR.out.le _ e;omega));have HO5:=hid (HO.out.ch hc (fun k hk=>(HBR.out.far HO.out k hk).2));have HCH5:=hid (HCH.out.then hc (fun i e=>.inr (HBR.out.le _ e)));clear hc;go_wp2_with fail;go_ret3;rw [HV.out];exact ⟨⟨_,rfl,HO5.out⟩,HS5.out,HCH5.out⟩
end Go.Proofs.YtknioodagnjchaaGreatDoor
