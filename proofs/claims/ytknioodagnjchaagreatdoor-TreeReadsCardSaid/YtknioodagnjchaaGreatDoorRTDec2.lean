/- node.Decode. -/
import Derived.Test.YtknioodagnjchaaGreatDoorRNb
import Derived.Deep.Cut
import Derived.Deep.CutRange
set_option maxRecDepth 100000
set_option maxHeartbeats 4000000
namespace Go.Proofs.YtknioodagnjchaaGreatDoor
open Go.Lib (hid)
open Go.RowKit
theorem nM {b3:Nat} {w5:World} {v':Value} {l:List By} {x:By} (h:Own sC 1 9 b3 w5 v' (l ++ [x])):∃ A c,v'=.slice A (l.length+1) c:=by obtain ⟨A,c,e⟩:=Sl.len' (h.sl aP);exact ⟨A,c,by rw [e];simp⟩
theorem nN {b3:Nat} {w5:World} {v':Value} {l:List Ce} {x:Ce} (h:Own cC 3 119 b3 w5 v' (l ++ [x])):∃ A c,v'=.slice A (l.length+1) c:=by obtain ⟨A,c,e⟩:=Sl.len' (h.sl bu);exact ⟨A,c,by rw [e];simp⟩
theorem iI {b3:Nat} {w5:World} {v':Value} {l:List Int} {x:Int} (h:Own iC 1 3 b3 w5 v' (l ++ [x])):∃ A c,v'=.slice A (l.length+1) c:=by obtain ⟨A,c,e⟩:=Sl.len' (h.sl aA);exact ⟨A,c,by rw [e];simp⟩
def NdO (base:Nat) (w:World) (v:Value) (n:Nd):Prop:=∃ vk vc vd,v=.agg #[.bool n.leaf,vk,vc,vd]∧Own sC 1 9 base w vk n.keys∧Own cC 3 119 base w vc n.cells∧Own iC 1 3 base w vd n.kids∧Dis vk vc∧Dis vk vd∧Dis vc vd
theorem NdO.v {base:Nat} {w:World} {v:Value} {n:Nd} (h:NdO base w v n):NdV w v n:=by obtain ⟨vk,vc,vd,rfl,h1,h2,h3,_⟩:=h;exact ⟨vk,vc,vd,rfl,h1.sl aP,h2.sl bu,h3.sl aA⟩
def tW (base:Nat) (w:World) (v:Value) (c:Int) (o:Option Nd):Prop:=match o with
 | some n=>c=0∧NdO base w v n
 | none=>c=4∧v=.agg #[.bool false,.slice none 0 0,.slice none 0 0,.slice none 0 0]
theorem ou {l:By} {rd:Rd} {n:Nd} (h:de l=(rd,n)):cN l=if rd.bad=false∧db n=0∧dD n=l then some n else none:=by
 unfold cN jJ dD db;rw [h];simp only;cases rd.bad <;> cases aB n <;> by_cases h2:232<(ar n).length
 all_goals simp [h2]
 all_goals (try omega)
 all_goals (try (have h3:(ar n).length≤232:=by omega);simp [h3])
theorem qb {l:By} {lf:Bool} (h:lf=decide (l.getD 0 0=1)) (hl:(l.drop 3).length=229):RSz (aS l).1 (aS l).2∧(aS l).2.leaf=lf:=by
 unfold aS
 split
 ·rename_i h1
  exact ⟨⟨by simp only;omega,by simp only [List.length_nil];split <;> omega,by simp,by simp,by simp,by simp⟩,by rw [h,decide_eq_true h1]⟩
 ·rename_i h1
  have h2:=(fJ ⟨l.drop 3,false⟩).1;simp only at h2;exact ⟨⟨by simp only;omega,by simp only [List.length_nil];split <;> omega,by simp,by simp,by simp,by simp⟩,by rw [h,decide_eq_false h1]⟩
theorem oq (l:By) (hl:l.length=232) (w:World):Calls Tryz.prog 109 #[.string (al l)] w fun e w'=>∃ v c,e=.returned (.tuple #[v,.int .i64 c])∧tW w.heap.size w' v c (cN l)∧Below w.heap.size w w':=by
 have hsz:(al l).size=l.length:=aq l;have hs1:(al l).size=232:=hsz.trans hl;clear hsz;have hs0:((al l).size:Int)=232:=by rw [hs1];rfl
 have hb0:(al l)[0]'(by rw [hs1];decide)=l.getD 0 0:=by rw [List.getD_eq_getElem?_getD,List.getElem?_eq_getElem (by omega),Option.getD_some];rfl
 obtain ⟨lf,hlf⟩:∃ lf:Bool,lf=decide (l.getD 0 0=1):=⟨_,rfl⟩
 have hb1:((((al l)[0]'(by rw [hs1];decide)).toNat:Int) == 1)=lf:=by
  rw [hb0,hlf];by_cases h:l.getD 0 0=1
  ·rw [h];rfl
  ·rw [decide_eq_false h];refine beq_eq_false_iff_ne.2 fun e=>h ?_
   apply UInt8.toNat_inj.1;show (l.getD 0 0).toNat=1;omega
 have HE3:=hid (show (al l).extract 3 232=al (l.drop 3) by
  rw [cR,aW,List.take_of_length_le (by rw [List.length_drop];omega)])
 have HE13:=hid (show (al l).extract 1 3=al ((l.drop 1).take 2) by rw [cR,aW]);have HLF:=hid hlf;clear hb0 hlf;go_enter Tryz.func109,Tryz.ntmps109;go_upto_region 5 with fail
 rw [HE3.out];have HS3:=hid (show DSt (w.heap.size+3) (w.heap.size+1) (w.heap.size+1+1) ⟨l.drop 3,false⟩ ⟨lf,[],[],[]⟩ (.slice none 0 0) (.slice none 0 0) (.slice none 0 0) (((w.alloc (ap Nd.zero (.slice none 0 0) (.slice none 0 0) (.slice none 0 0))).alloc (ap ⟨lf,[],[],[]⟩ (.slice none 0 0) (.slice none 0 0) (.slice none 0 0))).alloc (k9 ⟨l.drop 3,false⟩)) from
  ⟨ai (ag (by simp)) _,ag (by simp),Own.nil,Own.nil,Own.nil,Dis.nil,Dis.nil,Dis.nil,by omega,by omega,by omega⟩)
 have HZ3:=hid (show (((w.alloc (ap Nd.zero (.slice none 0 0) (.slice none 0 0) (.slice none 0 0))).alloc (ap ⟨lf,[],[],[]⟩ (.slice none 0 0) (.slice none 0 0) (.slice none 0 0))).alloc (k9 ⟨l.drop 3,false⟩)).heap[w.heap.size]?=some (ap Nd.zero (.slice none 0 0) (.slice none 0 0) (.slice none 0 0)) from
  ai (ai (ag rfl) _) _)
 have HW3:=hid ((((Below.refl _ w).alloc (Nat.le_refl _) (ap Nd.zero (.slice none 0 0) (.slice none 0 0) (.slice none 0 0))).alloc (by simp) (ap ⟨lf,[],[],[]⟩ (.slice none 0 0) (.slice none 0 0) (.slice none 0 0))).alloc (by simp;omega) (k9 ⟨l.drop 3,false⟩));have HH3:(((w.alloc (ap Nd.zero (.slice none 0 0) (.slice none 0 0) (.slice none 0 0))).alloc (ap ⟨lf,[],[],[]⟩ (.slice none 0 0) (.slice none 0 0) (.slice none 0 0))).alloc (k9 ⟨l.drop 3,false⟩)).heap.size=w.heap.size+3:=by simp
 generalize hw1:((w.alloc (.cells #[.bool false,.slice none 0 0,.slice none 0 0,.slice none 0 0] 110)).alloc (.cells #[.bool lf,.slice none 0 0,.slice none 0 0,.slice none 0 0] 110)).alloc (.cells #[.string (al (l.drop 3)),.bool false] 215)=w3 at *;have hw2:((w.alloc (ap Nd.zero (.slice none 0 0) (.slice none 0 0) (.slice none 0 0))).alloc (ap ⟨lf,[],[],[]⟩ (.slice none 0 0) (.slice none 0 0) (.slice none 0 0))).alloc (k9 ⟨l.drop 3,false⟩)=w3:=hw1;rw [hw2] at HS3 HZ3 HW3 HH3;clear hw1 hw2;have HH:=hid HH3;rw [← HH3] at HS3;have hx3:w.heap.size+1<w3.heap.size:=by omega
 have hy3:w.heap.size+1+1<w3.heap.size:=by omega
 clear HH3;have HDR:=hid (show de l=iF (bM ((l.drop 1).take 2)) (aS l).1 (aS l).2 from rfl);have hrl:(l.drop 3).length≤1000000:=by rw [List.length_drop];omega
 have HRL:=hid (show (l.drop 3).length=229 by rw [List.length_drop];omega);have HRS:=hid (show RSz (aS l).1 (aS l).2∧(aS l).2.leaf=lf from qb HLF.out HRL.out);clear hb1;obtain ⟨a0,a1,a2,a3,a4⟩:=aa HS3.out.g;simp only at a0;go_upto_if 24 with fail
 clear a0 a1 a2 a3 a4;go_cut [] from 10 to 31 (fun wc=>∃ vd,DSt w3.heap.size (w.heap.size+1) (w.heap.size+1+1) (aS l).1 (aS l).2 (.slice none 0 0) (.slice none 0 0) vd wc∧Ch (fun k=>k=w.heap.size+1∨k=w.heap.size+1+1) w3 wc)
 case first=>
  cases lf
  ·
   obtain ⟨⟨p,rd2⟩,hx⟩:∃ x,cO ⟨l.drop 3,false⟩=x:=⟨_,rfl⟩;have HST:=hid (show aS l=(rd2,⟨false,[],[],[(p:Int)]⟩) by
    unfold aS;rw [if_neg (by have:=HLF.out;simpa using this.symm),hx])
   have HPG:=hid hx;clear hx;go_upto_region 6 with fail
   obtain ⟨a0,a1,a2,a3,a4⟩:=aa HS3.out.g;obtain ⟨r0,r1,r2,r3,r4⟩:=eO HS3.out.r;have fz3:=ab HS3.out.g 3;go_region_law (first
    | (refine dk (by rfl) (by rfl) bt (by rfl) (by rfl) (HS4.out.d.alloc _) (Sl.one (p:Int) (by simp) aA (by rfl)) (by simp [maxLen]) (by simp) (by have:=aj HS4.out.g;simp;have:=HCH4.out.size;omega) ?_
       intro v' w5 ho hg hat;have HG5:=hid (ba (HS4.out.alloc _).g hg (fun k hk=>(HS4.out.d.lt k hk).1) HS4.out.h1);have HS5:=hid ((HS4.out.alloc _).addD ho hg hat);obtain ⟨A5,c5,h5⟩:=iI ho;simp only [List.length_nil,Nat.zero_add] at h5;subst h5;obtain ⟨e0,e1,e2,e3,e4⟩:=aa HG5.out;have ez:=ab HG5.out 3;have HCH5:=hid ((HCH4.out.alloc _).then (Ch.of_grown (S:=fun k=>w3.heap.size≤k) hg (fun k hk=>(HS4.out.d.lt k hk).1)) (fun i e=>.inr e));clear ho hg hat)
    | (go_simp
       go_at_call 149;refine (iR ⟨l.drop 3,false⟩ (w.heap.size+1+1) _ HS3.out.draw.r hrl).mono ?_;rw [HPG.out];rintro e w4 ⟨rfl,hr,hc⟩;have HS4:=hid (HS3.out.draw.reader hc hr);have HCH4:=hid (((Ch.refl (fun k=>k=w.heap.size+1∨k=w.heap.size+1+1) w3).drew).trans (hc.mono (fun _ _ e=>.inr e)));obtain ⟨d0,d1,d2,d3,d4⟩:=aa HS4.out.g;have dz:=ab HS4.out.g 3;clear hr hc))
   all_goals
    go_wp2_with fail;go_meet
    case rel=> rw [HST.out];exact ⟨_,HS5.out,HCH5.out.then ((Ch.refl (fun j=>j=w.heap.size+1) w5).setCell (p:=⟨w.heap.size+1,3,none⟩) rfl _) (fun i e=>.inl (.inl e))⟩
  ·have HST:=hid (show aS l=(⟨l.drop 3,false⟩,⟨true,[],[],[]⟩) by
    unfold aS;rw [if_pos (by have:=HLF.out;simpa using this.symm)])
   go_wp2_with fail;go_meet
   case rel=> rw [HST.out];exact ⟨_,HS3.out,Ch.refl _ _⟩
 case rest=>
  obtain ⟨vd,hs5,hc5⟩:=hcut;have HS5:=hid hs5;have HCH5:=hid hc5;clear hs5 hc5;have hL2:((l.drop 1).take 2).length=2:=by rw [List.length_take,List.length_drop];omega
  have HM:=hid (show bM ((l.drop 1).take 2)≤65535 by have:=fH ((l.drop 1).take 2);rw [hL2] at this;omega);go_wp2_with fail;rw [HE13.out];refine (eW (al ((l.drop 1).take 2)) wc (by rw [aq,hL2];decide) (by rw [aq,hL2];decide)).mono ?_;clear hL2;rw [aW];rintro e w6 ⟨rfl,hb⟩;have HS6:=hid (HS5.out.below hb);have HCH6:=hid (HCH5.out.trans (Ch.of_below hb));clear hb HS5 HCH5 HS3 HE3 HE13 hs0 hs1;generalize bM ((l.drop 1).take 2)=m at *;generalize (aS l).1=rd0 at *;generalize (aS l).2=n0 at *;go_wp2_with fail;go_loopw [6] (fun cv wr=>∃ (c:Nat) (rd:Rd) (n:Nd) (vk vc vd:Value),cv=.int .u64 c∧c≤65535∧iF c rd n=de l∧RSz rd n∧n.leaf=lf∧DSt w3.heap.size (w.heap.size+1) (w.heap.size+1+1) rd n vk vc vd wr∧Ch (fun k=>k=w.heap.size+1∨k=w.heap.size+1+1) w3 wr) (fun cv _=>(intOf cv).toNat)
  case atStart=>exact ⟨m,rd0,n0,_,_,_,rfl,HM.out,HDR.out.symm,HRS.out.1,HRS.out.2,HS6.out,HCH6.out⟩
  case round=>
   obtain ⟨c,rd,n,vk,vc,vd',rfl,hcm,hdg,hsz,hlf,hst,hch⟩:=hrel;clear HM HDR HRS HS6 HCH6;have HDG:=hid hdg;have HSZ:=hid hsz;have HST:=hid hst;have HCH:=hid hch;clear hdg hsz hst hch;obtain ⟨A1,c1,rfl⟩:=Sl.len' (HST.out.k.sl aP);obtain ⟨A2,c2,rfl⟩:=Sl.len' (HST.out.c.sl bu);obtain ⟨A3,c3,rfl⟩:=Sl.len' (HST.out.d.sl aA);obtain ⟨r0,r1,r2,r3,r4⟩:=eO HST.out.r;cases c with
   | zero=>
     have HRAW:=hid (show de l=(rd,n) from HDG.out.symm);clear HDG;have HNV:=hid (show NdV wr (.agg #[.bool lf,.slice A1 n.keys.length c1,.slice A2 n.cells.length c2,.slice A3 n.kids.length c3]) n from ⟨_,_,_,by rw [hlf],HST.out.k.sl aP,HST.out.c.sl bu,HST.out.d.sl aA⟩);obtain ⟨a0,a1,a2,a3,a4⟩:=aa HST.out.g;go_wp2_with fail;refine (ib n _ _ HNV.out HSZ.out.bd).mono ?_;rintro e w7 ⟨rfl,hb⟩;have HS7:=hid (HST.out.below hb);have HCH7:=hid (HCH.out.trans (Ch.of_below hb));have HZ7:=hid (HCH7.out.keep HZ3.out (by omega));clear hb a0 a1 a2 a3 a4 r0 r1 r2 r3 r4;obtain ⟨a0,a1,a2,a3,a4⟩:=aa HS7.out.g;obtain ⟨r0,r1,r2,r3,r4⟩:=eO HS7.out.r;obtain ⟨o0,o1,o2,o3,o4⟩:=aa HZ7.out;have q0:=ab HZ7.out 0;have q1:=ab HZ7.out 1;have q2:=ab HZ7.out 2;have q3:=ab HZ7.out 3;simp only [Nd.zero] at o0;have HDE:=hid (ou HRAW.out);have HL:=hid hlf;clear hlf;generalize db n=ec at *;generalize dD n=el at *;by_cases hbx:rd.bad=true
     ·rw [hbx] at r1;have HV:=hid (show cN l=none by rw [HDE.out,if_neg (by rw [hbx];simp)]);go_wp2_with fail;have hf:=ah (ah (ah (ah HZ7.out 0 (.bool false)) 1 (.slice none 0 0)) 2 (.slice none 0 0)) 3 (.slice none 0 0);obtain ⟨z0,z1,z2,z3,-⟩:=aa (n:=Nd.zero) hf;simp only [Nd.zero] at z0;have HC0:=hid ((((Ch.refl (fun j=>j=w.heap.size) w7).setCell (p:=⟨w.heap.size,0,none⟩) rfl (.bool false)).setCell (p:=⟨w.heap.size,1,none⟩) rfl (.slice none 0 0)).setCell (p:=⟨w.heap.size,2,none⟩) rfl (.slice none 0 0) |>.setCell (p:=⟨w.heap.size,3,none⟩) rfl (.slice none 0 0))
      exact bodyPost_ret (v:=.tuple #[.agg #[.bool false,.slice none 0 0,.slice none 0 0,.slice none 0 0],.int .i64 4]) (by simp [results,Tryz.results109,go_sem,z0,z1,z2,z3]) rfl
       ⟨_,_,rfl,by rw [HV.out];exact ⟨rfl,rfl⟩,(HW3.out.trans (HCH7.out.below (B:=w.heap.size) (by omega) (by omega))).trans (HC0.out.below (B:=w.heap.size) (by have:=HCH7.out.size;omega) (by omega))⟩
     ·have hbf:rd.bad=false:=by simpa using hbx
      rw [hbf] at r1;by_cases hec:ec=0
      ·subst hec;by_cases hel:el=l
       ·subst hel;have HV:=hid (show cN el=some n by rw [HDE.out,if_pos ⟨hbf,rfl,rfl⟩]);go_wp2_with fail;have hf:=ah (ah (ah (ah HZ7.out 0 (.bool n.leaf)) 1 (.slice A1 n.keys.length c1)) 2 (.slice A2 n.cells.length c2)) 3 (.slice A3 n.kids.length c3);obtain ⟨z0,z1,z2,z3,-⟩:=aa (n:=n) hf;have HC0:=hid ((((Ch.refl (fun j=>j=w.heap.size) w7).setCell (p:=⟨w.heap.size,0,none⟩) rfl (.bool n.leaf)).setCell (p:=⟨w.heap.size,1,none⟩) rfl (.slice A1 n.keys.length c1)).setCell (p:=⟨w.heap.size,2,none⟩) rfl (.slice A2 n.cells.length c2) |>.setCell (p:=⟨w.heap.size,3,none⟩) rfl (.slice A3 n.kids.length c3))
        exact bodyPost_ret (v:=.tuple #[.agg #[.bool n.leaf,.slice A1 n.keys.length c1,.slice A2 n.cells.length c2,.slice A3 n.kids.length c3],.int .i64 0]) (by simp [results,Tryz.results109,go_sem,z0,z1,z2,z3]) rfl
         ⟨_,_,rfl,by rw [HV.out];exact ⟨rfl,_,_,_,rfl,(HS7.out.k.base (by omega)).ch HC0.out (fun j hj e=>by have:=(HS7.out.k.lt j hj).1;omega),(HS7.out.c.base (by omega)).ch HC0.out (fun j hj e=>by have:=(HS7.out.c.lt j hj).1;omega),(HS7.out.d.base (by omega)).ch HC0.out (fun j hj e=>by have:=(HS7.out.d.lt j hj).1;omega),HS7.out.kc,HS7.out.kd,HS7.out.cd⟩,
          (HW3.out.trans (HCH7.out.below (B:=w.heap.size) (by omega) (by omega))).trans (HC0.out.below (B:=w.heap.size) (by have:=HCH7.out.size;omega) (by omega))⟩
       ·have hel2:((al el).toList == (al l).toList)=false:=by rw [aL,aL];simpa using hel
        have HV:=hid (show cN l=none by rw [HDE.out,if_neg (fun h=>hel h.2.2)]);go_wp2_with fail;have hf:=ah (ah (ah (ah HZ7.out 0 (.bool false)) 1 (.slice none 0 0)) 2 (.slice none 0 0)) 3 (.slice none 0 0);obtain ⟨z0,z1,z2,z3,-⟩:=aa (n:=Nd.zero) hf;simp only [Nd.zero] at z0;have HC0:=hid ((((Ch.refl (fun j=>j=w.heap.size) w7).setCell (p:=⟨w.heap.size,0,none⟩) rfl (.bool false)).setCell (p:=⟨w.heap.size,1,none⟩) rfl (.slice none 0 0)).setCell (p:=⟨w.heap.size,2,none⟩) rfl (.slice none 0 0) |>.setCell (p:=⟨w.heap.size,3,none⟩) rfl (.slice none 0 0))
        exact bodyPost_ret (v:=.tuple #[.agg #[.bool false,.slice none 0 0,.slice none 0 0,.slice none 0 0],.int .i64 4]) (by simp [results,Tryz.results109,go_sem,z0,z1,z2,z3]) rfl
         ⟨_,_,rfl,by rw [HV.out];exact ⟨rfl,rfl⟩,(HW3.out.trans (HCH7.out.below (B:=w.heap.size) (by omega) (by omega))).trans (HC0.out.below (B:=w.heap.size) (by have:=HCH7.out.size;omega) (by omega))⟩
      ·have hec2:(ec == 0)=false:=by simpa using hec
       have HV:=hid (show cN l=none by rw [HDE.out,if_neg (fun h=>hec h.2.1)]);go_wp2_with fail;have hf:=ah (ah (ah (ah HZ7.out 0 (.bool false)) 1 (.slice none 0 0)) 2 (.slice none 0 0)) 3 (.slice none 0 0);obtain ⟨z0,z1,z2,z3,-⟩:=aa (n:=Nd.zero) hf;simp only [Nd.zero] at z0;have HC0:=hid ((((Ch.refl (fun j=>j=w.heap.size) w7).setCell (p:=⟨w.heap.size,0,none⟩) rfl (.bool false)).setCell (p:=⟨w.heap.size,1,none⟩) rfl (.slice none 0 0)).setCell (p:=⟨w.heap.size,2,none⟩) rfl (.slice none 0 0) |>.setCell (p:=⟨w.heap.size,3,none⟩) rfl (.slice none 0 0))
       exact bodyPost_ret (v:=.tuple #[.agg #[.bool false,.slice none 0 0,.slice none 0 0,.slice none 0 0],.int .i64 4]) (by simp [results,Tryz.results109,go_sem,z0,z1,z2,z3]) rfl
        ⟨_,_,rfl,by rw [HV.out];exact ⟨rfl,rfl⟩,(HW3.out.trans (HCH7.out.below (B:=w.heap.size) (by omega) (by omega))).trans (HC0.out.below (B:=w.heap.size) (by have:=HCH7.out.size;omega) (by omega))⟩
   | succ c=>
     have hc0:(0:Int)<((c+1:Nat):Int):=by omega
     cases hbad:rd.bad
     ·rw [hbad] at r1;obtain ⟨⟨sz,rda⟩,hx⟩:∃ x,bn rd=x:=⟨_,rfl⟩;obtain ⟨⟨key,rdb⟩,hy⟩:∃ x,cg rda sz=x:=⟨_,rfl⟩;have HKY:=hid (show dq rd=(key,rdb) by unfold dq;rw [hx];exact hy);have HBAD:=hid hbad;have hl1:rd.rest.length≤1000000:=by have:=HSZ.out.rest;omega
      have hl2:rda.rest.length≤1000000:=by have:=(fI rd).1;rw [hx] at this;simp only at this;omega
      have hl3:rdb.rest.length≤1000000:=by have:=(dY rda sz).1;rw [hy] at this;simp only at this;omega
      have HX:=hid hx;have HY:=hid hy;clear hx hy hbad;go_upto_region 10 with fail
      obtain ⟨a0,a1,a2,a3,a4⟩:=aa HST.out.g;have az:=ab HST.out.g 1;have hnk:n.keys.length≤1000:=by have:=HSZ.out.sum;omega
      go_region_law (first
       | (refine dk (by rfl) (by rfl) f8 (by rfl) (by rfl) (HS7.out.k.alloc _) (Sl.one key (by simp) aP (by rfl)) (by simp [maxLen];omega) (by simp;omega) (by have:=HCH7.out.size;simp;omega) ?_
          intro v' w8 ho hg hat;have HG8:=hid (ba (HS7.out.alloc _).g hg (fun k hk=>(HS7.out.k.lt k hk).1) HS7.out.h1);have HS8:=hid ((HS7.out.alloc _).addK ho hg hat);obtain ⟨A8,c8,h8⟩:=nM ho;subst h8;obtain ⟨e0,e1,e2,e3,e4⟩:=aa HG8.out;have ez:=ab HG8.out 1;have HCH8:=hid ((HCH7.out.alloc _).then (Ch.of_grown (S:=fun k=>w3.heap.size≤k) hg (fun k hk=>(HS7.out.k.lt k hk).1)) (fun i e=>.inr e));clear ho hg hat)
       | (go_simp
          go_at_call 152;refine (lg rd (w.heap.size+1+1) _ HST.out.draw.r hl1).mono ?_;rw [HX.out];rintro e w7 ⟨rfl,hr,hc⟩;have HS6:=hid (HST.out.draw.reader hc hr);have HCH6:=hid (HCH.out.drew.trans (hc.mono (fun _ _ e=>.inr e)));obtain ⟨b0,b1,b2,b3,b4⟩:=aa HS6.out.g;have bz:=ab HS6.out.g 1;clear hr hc)
       | (go_simp
          go_at_call 151;refine (iP rda sz (w.heap.size+1+1) _ HS6.out.r hl2).mono ?_;rw [HY.out];rintro e w7 ⟨rfl,hr,hc⟩;have HS7:=hid (HS6.out.reader hc hr);have HCH7:=hid (HCH6.out.trans (hc.mono (fun _ _ e=>.inr e)));obtain ⟨d0,d1,d2,d3,d4⟩:=aa HS7.out.g;have dz:=ab HS7.out.g 1;clear hr hc))
      all_goals
       have HCH9:=hid (HCH8.out.then ((Ch.refl (fun j=>j=w.heap.size+1) w8).setCell (p:=⟨w.heap.size+1,1,none⟩) rfl (.slice A8 (n.keys.length+1) c8)) (fun i e=>.inl (.inl e)));clear HS6 HS7 HCH6 HCH7 HCH8 HG8 HST HCH a0 a1 a2 a3 a4 az b0 b1 b2 b3 b4 bz d0 d1 d2 d3 d4 dz e0 e1 e2 e3 e4 ez r0 r1 r2 r3 r4;go_upto_region 11 with fail
       generalize w8.setCell ⟨w.heap.size+1,1,none⟩ (.slice A8 (n.keys.length+1) c8)=w9 at *;obtain ⟨a0,a1,a2,a3,a4⟩:=aa HS8.out.g;simp only at a0;cases hv:n.leaf <;> rw [hv] at a0
       ·obtain ⟨⟨p,rdc⟩,hx⟩:∃ x,cO rdb=x:=⟨_,rfl⟩
        have HD1:=hid (show iF c rdc { n with keys:=n.keys ++ [key],kids:=n.kids ++ [(p:Int)] }=de l by
         rw [← HDG.out,iF,if_neg (by rw [HBAD.out];simp),if_neg (by rw [hv];simp)];simp only [HKY.out,hx])
        have HSZ1:=hid (show RSz rdc { n with keys:=n.keys ++ [key],kids:=n.kids ++ [(p:Int)] } by
         have:=HSZ.out.inner HBAD.out;simp only [HKY.out,hx] at this;exact this)
        have HZ:=hid hx;clear hx;go_upto_region 13 with fail
        have az:=ab HS8.out.g 3;have hnk:n.kids.length≤1000:=by have:=HSZ.out.sum;have:=HSZ.out.d;omega
        go_region_law (first
         | (refine dk (by rfl) (by rfl) bt (by rfl) (by rfl) (HS10.out.d.alloc _) (Sl.one (p:Int) (by simp) aA (by rfl)) (by simp [maxLen];omega) (by simp;omega) (by have:=HCH10.out.size;simp;omega) ?_
            intro v' w11 ho hg hat;have HG11:=hid (ba (HS10.out.alloc _).g hg (fun k hk=>(HS10.out.d.lt k hk).1) HS10.out.h1);have HS11:=hid ((HS10.out.alloc _).addD ho hg hat);obtain ⟨A11,c11,h11⟩:=iI ho;subst h11;obtain ⟨e0,e1,e2,e3,e4⟩:=aa HG11.out;have ez:=ab HG11.out 3;have HCH11:=hid ((HCH10.out.alloc _).then (Ch.of_grown (S:=fun k=>w3.heap.size≤k) hg (fun k hk=>(HS10.out.d.lt k hk).1)) (fun i e=>.inr e));clear ho hg hat)
         | (go_simp
            go_at_call 149;refine (iR rdb (w.heap.size+1+1) _ HS8.out.draw.r hl3).mono ?_;rw [HZ.out];rintro e w10 ⟨rfl,hr,hc⟩;have HS10:=hid (HS8.out.draw.reader hc hr);have HCH10:=hid (HCH9.out.drew.trans (hc.mono (fun _ _ e=>.inr e)));obtain ⟨d0,d1,d2,d3,d4⟩:=aa HS10.out.g;have dz:=ab HS10.out.g 3;clear hr hc))
        all_goals
         go_wp2_with fail;go_roundw
         case rel=>exact ⟨c,rdc,_,_,_,_,by go_num,by omega,HD1.out,HSZ1.out,hlf,HS11.out,HCH11.out.then ((Ch.refl (fun j=>j=w.heap.size+1) w11).setCell (p:=⟨w.heap.size+1,3,none⟩) rfl _) (fun i e=>.inl (.inl e))⟩
         case measure=>simp [intOf]
       ·obtain ⟨⟨ce,rdc⟩,hx⟩:∃ x,dg rdb=x:=⟨_,rfl⟩
        have HD1:=hid (show iF c rdc { n with keys:=n.keys ++ [key],cells:=n.cells ++ [ce] }=de l by
         rw [← HDG.out,iF,if_neg (by rw [HBAD.out];simp),if_pos hv];simp only [HKY.out,hx])
        have HSZ1:=hid (show RSz rdc { n with keys:=n.keys ++ [key],cells:=n.cells ++ [ce] } by
         have:=HSZ.out.leaf HBAD.out;simp only [HKY.out,hx] at this;exact this)
        have HZ:=hid hx;clear hx;go_upto_region 12 with fail
        have az:=ab HS8.out.g 2;have hnk:n.cells.length≤1000:=by have:=HSZ.out.sum;have:=HSZ.out.c;omega
        go_region_law (first
         | (refine dk (by rfl) (by rfl) gE (by rfl) (by rfl) (HS10.out.c.alloc _) (Sl.one ce (by simp) bu (by rfl)) (by simp [maxLen];omega) (by simp;omega) (by have:=HCH10.out.size;simp;omega) ?_
            intro v' w11 ho hg hat;have HG11:=hid (ba (HS10.out.alloc _).g hg (fun k hk=>(HS10.out.c.lt k hk).1) HS10.out.h1);have HS11:=hid ((HS10.out.alloc _).addC ho hg hat);obtain ⟨A11,c11,h11⟩:=nN ho;subst h11;obtain ⟨e0,e1,e2,e3,e4⟩:=aa HG11.out;have ez:=ab HG11.out 2;have HCH11:=hid ((HCH10.out.alloc _).then (Ch.of_grown (S:=fun k=>w3.heap.size≤k) hg (fun k hk=>(HS10.out.c.lt k hk).1)) (fun i e=>.inr e));clear ho hg hat)
         | (go_simp
            go_at_call 153;refine (pG rdb (w.heap.size+1+1) _ HS8.out.draw.r hl3).mono ?_;rw [HZ.out];rintro e w10 ⟨rfl,hr,hc⟩;have HS10:=hid (HS8.out.draw.reader hc hr);have HCH10:=hid (HCH9.out.drew.trans (hc.mono (fun _ _ e=>.inr e)));obtain ⟨d0,d1,d2,d3,d4⟩:=aa HS10.out.g;have dz:=ab HS10.out.g 2;clear hr hc))
        all_goals
         go_wp2_with fail;go_roundw
         case rel=>exact ⟨c,rdc,_,_,_,_,by go_num,by omega,HD1.out,HSZ1.out,hlf,HS11.out,HCH11.out.then ((Ch.refl (fun j=>j=w.heap.size+1) w11).setCell (p:=⟨w.heap.size+1,2,none⟩) rfl _) (fun i e=>.inl (.inl e))⟩
         case measure=>simp [intOf]
     ·rw [hbad] at r1;have HRAW:=hid (show de l=(rd,n) by rw [← HDG.out];unfold iF;rw [if_pos hbad]);clear HDG;have HNV:=hid (show NdV wr (.agg #[.bool lf,.slice A1 n.keys.length c1,.slice A2 n.cells.length c2,.slice A3 n.kids.length c3]) n from ⟨_,_,_,by rw [hlf],HST.out.k.sl aP,HST.out.c.sl bu,HST.out.d.sl aA⟩);obtain ⟨a0,a1,a2,a3,a4⟩:=aa HST.out.g;go_wp2_with fail;refine (ib n _ _ HNV.out HSZ.out.bd).mono ?_;rintro e w7 ⟨rfl,hb⟩;have HS7:=hid (HST.out.below hb);have HCH7:=hid (HCH.out.trans (Ch.of_below hb));have HZ7:=hid (HCH7.out.keep HZ3.out (by omega));clear hb a0 a1 a2 a3 a4 r0 r1 r2 r3 r4;obtain ⟨a0,a1,a2,a3,a4⟩:=aa HS7.out.g;obtain ⟨r0,r1,r2,r3,r4⟩:=eO HS7.out.r;obtain ⟨o0,o1,o2,o3,o4⟩:=aa HZ7.out;have q0:=ab HZ7.out 0;have q1:=ab HZ7.out 1;have q2:=ab HZ7.out 2;have q3:=ab HZ7.out 3;simp only [Nd.zero] at o0;have HDE:=hid (ou HRAW.out);have HL:=hid hlf;clear hlf;generalize db n=ec at *;generalize dD n=el at *;rw [hbad] at r1;have HV:=hid (show cN l=none by rw [HDE.out,if_neg (by rw [hbad];simp)]);go_wp2_with fail;have hf:=ah (ah (ah (ah HZ7.out 0 (.bool false)) 1 (.slice none 0 0)) 2 (.slice none 0 0)) 3 (.slice none 0 0);obtain ⟨z0,z1,z2,z3,-⟩:=aa (n:=Nd.zero) hf;simp only [Nd.zero] at z0;have HC0:=hid ((((Ch.refl (fun j=>j=w.heap.size) w7).setCell (p:=⟨w.heap.size,0,none⟩) rfl (.bool false)).setCell (p:=⟨w.heap.size,1,none⟩) rfl (.slice none 0 0)).setCell (p:=⟨w.heap.size,2,none⟩) rfl (.slice none 0 0) |>.setCell (p:=⟨w.heap.size,3,none⟩) rfl (.slice none 0 0))
      exact bodyPost_ret (v:=.tuple #[.agg #[.bool false,.slice none 0 0,.slice none 0 0,.slice none 0 0],.int .i64 4]) (by simp [results,Tryz.results109,go_sem,z0,z1,z2,z3]) rfl
       ⟨_,_,rfl,by rw [HV.out];exact ⟨rfl,rfl⟩,(HW3.out.trans (HCH7.out.below (B:=w.heap.size) (by omega) (by omega))).trans (HC0.out.below (B:=w.heap.size) (by have:=HCH7.out.size;omega) (by omega))⟩
end Go.Proofs.YtknioodagnjchaaGreatDoor
