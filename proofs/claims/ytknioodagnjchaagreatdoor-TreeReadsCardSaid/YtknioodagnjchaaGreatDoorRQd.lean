/- cahierref11: Good, Value. cahierref08.Find; cahierref16.Get. TreeReads: its walk. -/
import Derived.Test.YtknioodagnjchaaGreatDoorRQc
import Derived.Test.YtknioodagnjchaaGreatDoorRCa
import Derived.Test.YtknioodagnjchaaGreatDoorRQb
import Derived.Test.YtknioodagnjchaaGreatDoorRCb
import Derived.Test.YtknioodagnjchaaGreatDoorRTAw16
set_option maxRecDepth 100000
set_option maxHeartbeats 8000000
namespace Go.Proofs.YtknioodagnjchaaGreatDoor
open Go.Lib (hid)
open Go.RowKit
theorem pE (c:Ce) (w:World):Calls Tryz.prog 118 #[.agg #[.int .i64 c.size,.string (al c.data),.int .i64 c.page]] w fun e w'=>e=.returned (.bool (aE c))∧Below w.heap.size w w':=by
 obtain ⟨sz,da,pg⟩:=c;have HB:=hid ((Below.refl _ w).alloc (Nat.le_refl _) (cF ⟨sz,da,pg⟩));have HG:=hid (ag (w0:=w) (g:=w.heap.size) (o:=cF ⟨sz,da,pg⟩) rfl);have hsz2:((al da).size:Int)=(da.length:Int):=by rw [aq]
 go_enter Tryz.func118,Tryz.ntmps118;go_upto_region 1 with fail
 generalize hw1:w.alloc (.cells #[.int .i64 sz,.string (al da),.int .i64 pg] 119)=w1 at *;have hw2:w.alloc (cF ⟨sz,da,pg⟩)=w1:=hw1;rw [hw2] at HB HG;clear hw1 hw2;have a0:w1.cell? ⟨w.heap.size,0,none⟩=some (.int .i64 sz):=ac HG.out 0;have a1:w1.cell? ⟨w.heap.size,1,none⟩=some (.string (al da)):=ac HG.out 1;have a2:w1.cell? ⟨w.heap.size,2,none⟩=some (.int .i64 pg):=ac HG.out 2;have a3:=aj HG.out;by_cases h1:sz<0
 ·have HV:=hid (show aE ⟨sz,da,pg⟩=false by simp [aE,h1]);go_wp2_with fail;go_ret;exact ⟨by rw [HV.out];rfl,HB.out⟩
 ·have h2:(0:Int)≤sz:=by omega
  by_cases h3:5000<sz
  ·have HV:=hid (show aE ⟨sz,da,pg⟩=false by simp [aE,h3]);go_wp2_with fail;go_ret;exact ⟨by rw [HV.out];rfl,HB.out⟩
  ·have h4:sz≤5000:=by omega
   by_cases h5:sz≤40
   ·by_cases h6:(da.length:Int)=sz
    ·have h7:(((al da).size:Int) == sz)=true:=by rw [hsz2,h6];simp
     have HV:=hid (show aE ⟨sz,da,pg⟩=(pg == 0) by
      unfold aE;rw [if_neg (by simp only;omega),if_pos h5];simp [h6];rfl)
     clear hsz2 h6;go_wp2_with fail;go_ret;exact ⟨by rw [HV.out];rfl,HB.out⟩
    ·have h7:(((al da).size:Int) == sz)=false:=by rw [hsz2];simpa using h6
     have HV:=hid (show aE ⟨sz,da,pg⟩=false by
      unfold aE;rw [if_neg (by simp only;omega),if_pos h5];simp [h6])
     clear hsz2 h6;go_wp2_with fail;go_ret;exact ⟨by rw [HV.out];rfl,HB.out⟩
   ·have h5b:(40:Int)<sz:=by omega
    by_cases h6:da=[]
    ·subst h6;have h8:(al ([]:List UInt8)).toList.isEmpty=true:=by rw [aL];rfl
     clear hsz2;by_cases hp:1≤pg
     ·have HV:=hid (show aE ⟨sz,[],pg⟩=decide (pg≤4095) by
       unfold aE cm;rw [if_neg (by simp only;omega),if_neg (by simp only;omega)];simp [hp];omega)
      go_wp2_with fail;go_ret;exact ⟨by rw [HV.out];rfl,HB.out⟩
     ·have HV:=hid (show aE ⟨sz,[],pg⟩=false by
       unfold aE cm;rw [if_neg (by simp only;omega),if_neg (by simp only;omega)];simp [hp])
      go_wp2_with fail;go_ret;exact ⟨by rw [HV.out];rfl,HB.out⟩
    ·have h8:(al da).toList.isEmpty=false:=by rw [aL];simpa using h6
     have HV:=hid (show aE ⟨sz,da,pg⟩=false by
      unfold aE;rw [if_neg (by simp only;omega),if_neg (by simp only;omega)];simp [h6])
     clear hsz2 h6;go_wp2_with fail;go_ret;exact ⟨by rw [HV.out];rfl,HB.out⟩
theorem nf {s:Sf} (h:s.left=-1):∀ (f left:Nat) (p:Int),((jw f left p).run s).1=s
 | 0,_,_=>rfl
 | f+1,left,p=>by
   have hb:=(jl h 0).1;unfold jw
   split
   ·rfl
   ·simp only [Pro.run]
    split
    ·rw [hb]
     split
     ·rfl
     ·rw [run_bind];have ih:=nf h f (left - 227)
      rename_i nx _ _
      have ih:=ih nx;generalize (jw f (left - 227) nx).run s=x at *;obtain ⟨s2,a⟩:=x;simp only at ih;subst ih;cases a <;> rfl
    ·exact hb
theorem nQ {s:Sf} (h:s.left=-1) (c:Ce):((bb c).run s).1=s:=by
 unfold bb
 split
 ·rfl
 ·split
  ·rfl
  ·exact nf h _ _ _
theorem ph {l:By} {i:Nat} (h:i<(al l).size):(al l)[i]=l.getD i 0:=by rw [List.getD_eq_getElem?_getD,List.getElem?_eq_getElem h,Option.getD_some];rfl
theorem pb (b:UInt8) (n:Nat) (hn:n<256):((b.toNat:Int) == (n:Int))=decide (b=UInt8.ofNat n):=by
 by_cases h:b=UInt8.ofNat n
 ·rw [decide_eq_true h,h];simp [Nat.mod_eq_of_lt hn]
 ·rw [decide_eq_false h];refine beq_eq_false_iff_ne.2 fun e=>h ?_
  apply UInt8.toNat_inj.1;simp [Nat.mod_eq_of_lt hn];omega
theorem nP {l:By} {i:Nat} (h:i<l.length):cn (l.drop i)=(decide (l[i]=0) && cn (l.drop (i+1))):=by rw [List.drop_eq_getElem_cons h];unfold cn;rw [List.all_cons];rfl
theorem n7 (c:Ce) (b0 b1 m gu gb:Nat) (s:Sf) (w:World) (h:RqIs b0 b1 m w gu gb s) (hm:m≤1000000):
  Calls Tryz.prog 65 #[.pointer (some ⟨gu,0,none⟩),.agg #[.int .i64 c.size,.string (al c.data),.int .i64 c.page]] w fun e w'=>sP w.heap.size w' e ((bb c).run s).2∧Below w.heap.size w w':=by
 have HX:=hid (ag (w0:=w) (g:=w.heap.size) (o:=cF c) rfl);have HW:=hid ((Below.refl _ w).alloc (Nat.le_refl _) (cF c));have H0:=hid h;have HLF:=hid h.left;clear h;go_enter Tryz.func65,Tryz.ntmps65;go_upto_region 1 with fail
 generalize hw1:w.alloc (.cells #[.int .i64 c.size,.string (al c.data),.int .i64 c.page] 119)=w1 at *;have hw2:w.alloc (cF c)=w1:=hw1;rw [hw2] at HX HW;clear hw1 hw2;obtain ⟨d0,d1,d2,d3,d4,d5,d6⟩:=aF HX.out;go_wp2_with fail;refine (pE c w1).mono ?_;rintro e w2 ⟨rfl,hb⟩;have HX2:=hid (ae HX.out hb);have HW2:=hid (HW.out.trans (hb.mono HW.out.size));clear hb d0 d1 d2 d3 d4 d5 d6;obtain ⟨d0,d1,d2,d3,d4,d5,d6⟩:=aF HX2.out;cases hg:aE c
 ·have HV:=hid (show (bb c).run s=(s,.err 1) by unfold bb;rw [if_pos hg];rfl);go_wp2_with fail;go_ret3;rw [HV.out];exact ⟨rfl,HW2.out⟩
 ·have hcs:(c.size≤40→c.page=0)∧(40<c.size→¬ c.page=0∧c.size≤5000):=by
   unfold aE at hg
   split at hg
   ·cases hg
   ·split at hg
    ·rename_i h40
     simp only [Bool.and_eq_true,decide_eq_true_eq] at hg;exact ⟨fun _=>hg.2,fun h=>by omega⟩
    ·rename_i h0 h40
     simp only [Bool.and_eq_true,decide_eq_true_eq,cm] at hg;exact ⟨fun h=>absurd h h40,fun h=>⟨by omega,by omega⟩⟩
  by_cases hp:c.size≤40
  ·have HV:=hid (show (bb c).run s=(s,.ok (c.data,[])) by unfold bb;rw [if_neg (by rw [hg];simp),if_pos (hcs.1 hp)];rfl);go_wp2_with fail;go_ret3;rw [HV.out];exact ⟨⟨_,rfl,Own.nil⟩,HW2.out⟩
  ·have h40:40<c.size:=by omega
   obtain ⟨hp0,h50⟩:=hcs.2 h40;have HV0:=hid (show bb c=jw 23 c.size.toNat c.page by unfold bb;rw [if_neg (by rw [hg];simp),if_neg hp0]);clear hcs hp0 hp;have HNW:=hid (show Own iC 1 3 w.heap.size (w2.alloc (.cells #[] 3)) (.slice (some ⟨w2.heap.size,0,none⟩) 0 0) ([]:List Int) from World.ownsRow_lit w2 #[] 0 HW2.out.size (by simp [maxLen]) (by simp));have HX3:=hid (ai HX2.out (.cells #[] 3));have HW3:=hid (HW2.out.alloc HW2.out.size (.cells #[] 3));go_upto_region 7 with fail
   generalize w2.alloc (.cells #[] 3)=w3 at *;generalize w2.heap.size=g2 at *;clear d0 d1 d2 d3 d4 d5 d6;obtain ⟨d0,d1,d2,d3,d4,d5,d6⟩:=aF HX3.out;go_wp2_with fail
   go_loopw [7,8,9,10] (fun sv lv av iv wr=>∃ (f:Nat) (li at_:Int) (acc:By) (ps:List Int),sv=.string (al acc)∧iv=.int .i64 li∧-227≤li∧li≤5000∧av=.int .i64 at_∧f≤23∧li≤(f:Int) * 227∧acc.length+f * 227≤5221∧ps.length+f≤23∧
    (bb c).run s=((jw f li.toNat at_).bind fun x=>.pure (acc ++ x.1,ps ++ x.2)).run s∧Own iC 1 3 w.heap.size wr lv ps∧Below w.heap.size w wr) (fun _ _ _ iv _=>(intOf iv).toNat)
   case atStart=>exact ⟨23,c.size,c.page,[],[],rfl,rfl,by omega,by omega,rfl,by omega,by omega,by simp,by simp,by rw [HV0.out];exact (iu _ _).symm,HNW.out,HW3.out⟩
   case round=>
    obtain ⟨f,li,at_,acc,ps,rfl,rfl,hl0,hl1,rfl,hf,hlf,hac,hps,hrun,ho,hb⟩:=hrel;have HRUN:=hid hrun;have HO:=hid ho;have HB:=hid hb;have HSZ:=hid hb.size;have HR:=hid (H0.out.ch (S:=fun _=>False) ⟨hb.os,hb.tape,hb.output,hb.size,fun k hk _=>hb.block k hk⟩ (fun _ h=>h.elim) H0.out.b01);obtain ⟨A8,c8,rfl⟩:=Sl.len' (ho.sl aA);clear hrun ho hb d0 d1 d2 d3 d4 d5 d6;have sa:=aq acc;by_cases hz:0<li
    ·cases f with
     | zero=>omega
     | succ f=>
       have hl232:=HR.out.len at_
       have HR1:=hid (show jw (f+1) li.toNat at_=.get at_ fun l=>match eP l li.toNat with
         | none=>.fail 30
         | some (next,part)=>(jw f (li.toNat - 227) next).bind fun r=>.pure (part ++ r.1,at_ :: r.2) by
        show (if li.toNat=0 then _ else _)=_;rw [if_neg (by omega)];rfl)
       have HBS:=hid (jl HLF.out at_).1;go_wp2_with fail;refine (kX at_ b0 b1 m gu gb s wr HR.out hm).mono ?_;rintro e w5 ⟨rfl,hb5⟩;have HB5:=hid (HB.out.trans (hb5.mono HSZ.out));have HO5:=hid (HO.out.below hb5);clear hb5;by_cases hbe:bc s at_=0
       ·have HGV:=hid (show fS s at_=s.B at_ by unfold fS;rw [if_pos hbe]);rw [HGV.out,hbe];obtain ⟨l,hbl⟩:∃ l,s.B at_=l:=⟨_,rfl⟩;rw [hbl] at hl232 ⊢;have HBL:=hid hbl;clear hbl;have s9:=aq l;rw [hl232] at s9;have hs9:((al l).size:Int)=232:=by rw [s9];rfl
        have HE15:=hid (show (al l).extract 1 5=al ((l.drop 1).take 4) by rw [cR,aW]);have hL4:((l.drop 1).take 4).length=4:=by rw [List.length_take,List.length_drop];omega
        have HUL:=hid (show bM ((l.drop 1).take 4)<4294967296 from by have:=fH ((l.drop 1).take 4);rw [hL4] at this;exact this);go_wp2_with fail;rw [HE15.out];refine (ip (al ((l.drop 1).take 4)) w5 (by rw [aq,hL4];decide) (by rw [aq,hL4];decide)).mono ?_;rw [aW];rintro e w6 ⟨rfl,rfl⟩;clear hL4;have HLK:=hid (show eP l li.toNat=if l.getD 0 0=3∧((bM ((l.drop 1).take 4)=0)↔li.toNat≤227)∧cn ((l.drop 5).drop li.toNat)=true then some ((bM ((l.drop 1).take 4):Int),(l.drop 5).take li.toNat) else none from rfl);have hnx:=HUL.out;generalize bM ((l.drop 1).take 4)=nx at *
        have HRB:=hid (show eP l li.toNat=none→(bb c).run s=(s,.err 30) from fun hn=>by
         rw [HRUN.out];refine ak ?_;rw [HR1.out];show (if bc s at_=0 then _ else _)=_;rw [if_pos hbe,HBL.out,HBS.out];simp only [hn];rfl)
        have HRG:=hid (show eP l li.toNat=some ((nx:Int),(l.drop 5).take li.toNat)→(bb c).run s=((jw f (li.toNat - 227) nx).bind fun x=>.pure ((acc ++ (l.drop 5).take li.toNat) ++ x.1,(ps ++ [at_]) ++ x.2)).run s from fun hn=>by
         rw [HRUN.out,HR1.out];show (if bc s at_=0 then _ else _)=_;rw [if_pos hbe,HBL.out,HBS.out];simp only [hn];exact jo _ _ _ _ _ _)
        have hb0:(al l)[0]'(by rw [s9];decide)=l.getD 0 0:=ph _;have HG0:=hid (fun i (h:i<(al l).size)=>(ph h:(al l)[i]=l.getD i 0));have HZD:=hid (fun i (h:i<l.length)=>nP h);obtain ⟨ok,hok⟩:∃ ok:Bool,ok=decide (l.getD 0 0=3∧(nx=0↔li.toNat≤227)):=⟨_,rfl⟩;have HOK:=hid hok;clear hok;go_upto_region 15 with fail
        go_cut [58] from 49 to 58 (fun v wc=>v=.bool (!ok)∧w5=wc)
        case first=>
         by_cases h3:l.getD 0 0=3
         ·have h31:(((l.getD 0 0).toNat:Int) == 3)=true:=by rw [h3];rfl
          have h32:(((l.getD 0 0).toNat:Int) != 3)=false:=by rw [bne,h31];rfl
          by_cases hn:nx=0 <;> by_cases hle:li≤227
          ·have HV:ok=true:=by rw [HOK.out];exact decide_eq_true ⟨h3,fun _=>by omega,fun _=>hn⟩
           have HV:=hid HV;clear h3;generalize l.getD 0 0=y0 at *;subst hn;go_wp2_with fail;go_meet
           case rel=>exact ⟨by rw [HV.out];rfl,rfl⟩
          ·have HV:ok=false:=by rw [HOK.out];exact decide_eq_false fun h=>by have:=h.2.1 hn;omega
           have HV:=hid HV;clear h3;generalize l.getD 0 0=y0 at *;subst hn;have hle2:(227:Int)<li:=by omega
           go_wp2_with fail;go_meet
           case rel=>exact ⟨by rw [HV.out];rfl,rfl⟩
          ·have HV:ok=false:=by rw [HOK.out];exact decide_eq_false fun h=>hn (h.2.2 (by omega))
           have HV:=hid HV;have hn1:((nx:Int) == 0)=false:=by simpa using hn
           clear h3;generalize l.getD 0 0=y0 at *;go_wp2_with fail;go_meet
           case rel=>exact ⟨by rw [HV.out];rfl,rfl⟩
          ·have HV:ok=true:=by rw [HOK.out];exact decide_eq_true ⟨h3,fun h=>absurd h hn,fun h=>by omega⟩
           have HV:=hid HV;have hn1:((nx:Int) == 0)=false:=by simpa using hn
           have hle2:(227:Int)<li:=by omega
           clear h3;generalize l.getD 0 0=y0 at *;go_wp2_with fail;go_meet
           case rel=>exact ⟨by rw [HV.out];rfl,rfl⟩
         ·have h31:(((l.getD 0 0).toNat:Int) == 3)=false:=(pb (l.getD 0 0) 3 (by decide)).trans (decide_eq_false h3);have h32:(((l.getD 0 0).toNat:Int) != 3)=true:=by rw [bne,h31];rfl
          have HV:ok=false:=by rw [HOK.out];exact decide_eq_false fun h=>h3 h.1
          have HV:=hid HV;clear h3;generalize l.getD 0 0=y0 at *;go_wp2_with fail;go_meet
          case rel=>exact ⟨by rw [HV.out];rfl,rfl⟩
        case rest=>
         obtain ⟨rfl,rfl⟩:=hcut;cases ok
         ·have HX3:=hid (of_decide_eq_false HOK.out.symm);have HV:=hid (HRB.out (by rw [HLK.out,if_neg (fun h=>HX3.out ⟨h.1,h.2.1⟩)]));go_wp2_with fail;go_ret3;rw [HV.out];exact ⟨rfl,HB5.out⟩
         ·have HX3:=hid (of_decide_eq_true HOK.out.symm);go_upto_if 61 with fail
          go_cut [15] from 62 to 62 (fun v wc=>v=.int .i64 (min li 227)∧w5=wc)
          case first=>
           by_cases hl7:li<227
           ·have hmn:min li 227=li:=by omega
            go_wp2_with fail;go_meet
            case rel=>exact ⟨by rw [hmn],rfl⟩
           ·have hmn:min li 227=227:=by omega
            have hl8:227≤li:=by omega
            go_wp2_with fail;go_meet
            case rel=>exact ⟨by rw [hmn],rfl⟩
          case rest=>
           obtain ⟨rfl,rfl⟩:=hcut;obtain ⟨sz,hsz⟩:∃ sz:Nat,min li 227=(sz:Int):=⟨(min li 227).toNat,by omega⟩;have hsz1:sz≤227:=by omega
           have hsz2:1≤sz:=by omega
           have HZZ:=hid (show cn ((l.drop 5).drop li.toNat)=cn (l.drop (5+sz)) by
            rw [List.drop_drop];by_cases h:li≤227
            ·rw [show 5+li.toNat=5+sz by omega]
            ·rw [List.drop_of_length_le (by omega),List.drop_of_length_le (by omega)])
           have HTK:=hid (show (l.drop 5).take li.toNat=(l.drop 5).take sz by
            by_cases h:li≤227
            ·rw [show li.toNat=sz by omega]
            ·rw [List.take_of_length_le (by rw [List.length_drop];omega),List.take_of_length_le (by rw [List.length_drop];omega)])
           have HSZ2:=hid (show (sz:Int)=min li 227 from hsz.symm);rw [hsz];clear hsz;have hw5:IntKind.i64.wrap (5+(sz:Int))=((5+sz:Nat):Int):=by rw [IntWalk.i64_in _ (by omega)];omega
           have HW5:=hid hw5;go_wp2_with fail;go_loopw [16] (fun iv wq=>∃ k:Nat,k≤232∧iv=.int .i64 k∧cn (l.drop k)=cn ((l.drop 5).drop li.toNat)∧wq=w5) (fun iv _=>232 - (intOf iv).toNat)
           case atStart=>exact ⟨5+sz,by omega,by first | rfl | rw [HW5.out] | go_num,HZZ.out.symm,rfl⟩
           case round=>
            obtain ⟨k,hk,rfl,hzz,rfl⟩:=hrel;have HZK:=hid hzz;clear hzz HZZ;by_cases hkl:k<232
            ·have hks:k<(al l).size:=by omega
             have hk1:(k:Int)<((al l).size:Int):=by omega
             have hk2:(k:Int)<232:=by omega
             have hk0:(0:Int)≤(k:Int):=by omega
             have hix:(al l)[k]=l.getD k 0:=HG0.out k hks;have HZN:=hid (show cn (l.drop k)=(decide (l.getD k 0=0) && cn (l.drop (k+1))) by
              rw [HZD.out k (by omega),List.getD_eq_getElem?_getD,List.getElem?_eq_getElem (by omega)];rfl)
             by_cases hy:l.getD k 0=0
             ·have hy1:(((l.getD k 0).toNat:Int) == 0)=true:=by rw [hy];rfl
              have hy2:(((l.getD k 0).toNat:Int) != 0)=false:=by rw [bne,hy1];rfl
              have HZ2:=hid (show cn (l.drop (k+1))=cn ((l.drop 5).drop li.toNat) by rw [← HZK.out,HZN.out,decide_eq_true hy,Bool.true_and]);clear hy hb0 HZN;generalize l.getD k 0=y at *;go_wp2_with fail;go_roundw
              case rel=>exact ⟨k+1,by omega,by go_num,HZ2.out,by trivial⟩
              case measure=>simp [intOf];omega
             ·have hy1:(((l.getD k 0).toNat:Int) == 0)=false:=(pb (l.getD k 0) 0 (by decide)).trans (decide_eq_false hy);have hy2:(((l.getD k 0).toNat:Int) != 0)=true:=by rw [bne,hy1];rfl
              have HV:=hid (HRB.out (by
               rw [HLK.out,if_neg (fun h=>?_)];have:=h.2.2;rw [← HZK.out,HZN.out,decide_eq_false hy] at this;cases this))
              clear hy hb0 HZN;generalize l.getD k 0=y at *;go_wp2_with fail;go_ret3;rw [HV.out];exact ⟨rfl,HB5.out⟩
            ·obtain rfl:k=232:=by omega
             have HRX:=hid (HRG.out (by rw [HLK.out,if_pos ⟨HX3.out.1,HX3.out.2,HZK.out.symm.trans (by rw [List.drop_of_length_le (by omega)];rfl)⟩]));rw [HTK.out] at HRX;have HEX:=hid (show (al l).extract 5 (5+sz)=al ((l.drop 5).take sz) by rw [cR,aW,Nat.add_sub_cancel_left]);have HPL:=hid (show ((l.drop 5).take sz).length=sz by rw [List.length_take,List.length_drop];omega);have hw6:IntKind.i64.wrap (nx:Int)=(nx:Int):=IntWalk.i64_in _ (by omega);have sp:=aq ((l.drop 5).take sz);rw [HPL.out] at sp;have HAP:=hid (show al acc ++ al ((l.drop 5).take sz)=al (acc ++ (l.drop 5).take sz) by rw [bU];rfl);have h5z:((5+sz:Nat):Int)≤((al l).size:Int):=by omega
             clear hkl hk hb0 HZK;generalize hpt:(l.drop 5).take sz=pt at *;go_wp2_with (at_builtin;refine Hid.out ?_);refine hid ?_;refine am (xs:=ps) (ys:=[at_]) rfl rfl bt rfl rfl (HO5.out.alloc _) (Sl.one at_ (by simp) aA rfl) (by simp [maxLen];omega) (by simp;omega) (by have:=HB5.out.size;simp;omega) ?_;intro v' w10 ho hg hat;have HO10:=hid ho;have HB10:=hid (ef (HB5.out.alloc HB5.out.size _) hg (by have:=HB5.out.size;simp;omega) (fun k hk=>(HO5.out.lt k hk).1));clear ho hg hat;go_wp2_with fail;go_roundw
             case rel=> exact ⟨f,li - 227,nx,acc ++ pt,ps ++ [at_],by first | rw [HEX.out,HAP.out] | (rw [← HAP.out];rfl),by go_num,by omega,by omega,by go_num,by omega,by omega,by rw [List.length_append,HPL.out];omega,by rw [List.length_append,List.length_singleton];omega,by rw [show (li - 227).toNat=li.toNat - 227 by omega];exact HRX.out,HO10.out,HB10.out⟩
             case measure=>simp [intOf];omega
       ·have HV:=hid (show (bb c).run s=(s,.err (bc s at_)) by
         rw [HRUN.out];refine ak ?_;rw [HR1.out];show (if bc s at_=0 then _ else _)=_;rw [if_neg hbe,HBS.out])
        generalize bc s at_=be at *;have hbe2:(be == 0)=false:=by simpa using hbe
        have hbe3:(be != 0)=true:=by simpa using hbe
        go_wp2_with fail;go_ret3;rw [HV.out];exact ⟨rfl,HB5.out⟩
    ·have HV:=hid (show (bb c).run s=(s,.ok (acc,ps)) by
      rw [HRUN.out];have h0:jw f li.toNat at_=.pure ([],[]):=by
       cases f with
       | zero=>rfl
       | succ f=>show (if li.toNat=0 then _ else _)=_;rw [if_pos (by omega)]
      rw [h0];simp [Pro.bind,Pro.run])
     go_wp2_with fail;go_ret3;rw [HV.out];exact ⟨⟨_,rfl,HO.out⟩,HB.out⟩
theorem sj {x:By} {ks:List By} {k:By} (h:bK x k=true):bB (x :: ks) k=bB ks k+1:=by unfold bB;rw [List.takeWhile_cons,if_pos h];rfl
theorem tf {x:By} {ks:List By} {k:By} (h:bK x k=false):bB (x :: ks) k=0:=by unfold bB;rw [List.takeWhile_cons,if_neg (by rw [h];simp)];rfl
theorem tg {ks:List By} {k:By} {i:Nat} (h:bB ks k=i) (hi:i<ks.length):fO ks k=decide (ks[i]=k):=by unfold fO;rw [h,List.getElem?_eq_getElem hi];simp
theorem sk {ks:List By} {k:By} (h:bB ks k=ks.length):fO ks k=false:=by unfold fO;rw [h,List.getElem?_eq_none (Nat.le_refl _)];rfl
theorem qA {a b:By}:((al a).toList == (al b).toList)=decide (a=b):=by rw [aL,aL];by_cases h:a=b <;> simp [h]
theorem pI (n:Nd) (k:By) (v:Value) (w:World) (h:NdV w v n) (hb:n.Bd) (hg:aB n=true):Calls Tryz.prog 64 #[v,.string (al k)] w fun e w'=>e=.returned (.tuple #[.int .i64 (bB n.keys k),.bool (fO n.keys k)])∧Below w.heap.size w w':=by
 obtain ⟨vk,vc,vd,rfl,hs⟩:=h;obtain ⟨A1,c1,rfl⟩:=Sl.len' hs.k;have HW1:=hid ((Below.refl _ w).alloc (Nat.le_refl _) (ap n (.slice A1 n.keys.length c1) vc vd));have HG1:=hid (ag (w0:=w) (g:=w.heap.size) (o:=ap n (.slice A1 n.keys.length c1) vc vd) rfl);have HS1:=hid (hs.keep HW1.out);have HB:=hid hb;have hk2:=hb.k;have HG:=hid hg;clear hs hb hg;go_enter Tryz.func64,Tryz.ntmps64;go_upto_region 1 with fail
 generalize hw1:w.alloc (.cells #[.bool n.leaf,.slice A1 n.keys.length c1,vc,vd] 110)=w1 at *;have hw2:w.alloc (ap n (.slice A1 n.keys.length c1) vc vd)=w1:=hw1;rw [hw2] at HW1 HG1 HS1;clear hw1 hw2;obtain ⟨a0,a1,a2,a3,a4⟩:=aa HG1.out;go_wp2_with fail;refine (lm n _ w1 ⟨_,vc,vd,rfl,HS1.out⟩ HB.out).mono ?_;rw [HG.out];rintro e w2 ⟨rfl,hb⟩;have HG2:=hid (ae HG1.out hb);have HW2:=hid (HW1.out.trans (hb.mono HW1.out.size));have HK2:=hid (HS1.out.keep hb).k;clear hb a0 a1 a2 a3 a4 HW1 HG1 HS1;obtain ⟨a0,a1,a2,a3,a4⟩:=aa HG2.out;obtain ⟨nl,nk,nc,nd⟩:=n;simp only at a0 a1 a2 a3 HK2 hk2 ⊢;go_wp2_with fail;go_loopw [6] (fun s6 wr=>∃ i:Nat,s6=.int .i64 i∧i≤nk.length∧bB nk k=i+bB (nk.drop i) k∧wr=w2) (fun s6 _=>nk.length - (intOf s6).toNat)
 case atStart=>exact ⟨0,rfl,Nat.zero_le _,by simp,rfl⟩
 case round=>
  obtain ⟨i,rfl,hi,he,rfl⟩:=hrel;have HE:=hid he;have HW3:=HW2;clear he HW2;by_cases hlt:i<nk.length
  ·obtain ⟨b,off,rfl,hbl,-,c0⟩:=HK2.out.key hlt;have hi1:(i:Int)<(nk.length:Int):=by omega
   have HD:=hid (show bB nk k=i+bB (nk[i] :: nk.drop (i+1)) k by rw [← List.drop_eq_getElem_cons hlt];exact HE.out);have HB:=hid (fun (e:bB nk k=i)=>tg e hlt);generalize hpi:nk[i]=p at *;clear hpi HE;have heq:=qA (a:=p) (b:=k);have hls:Op.bytesLess (al p).toList (al k).toList=bK p k:=by rw [aL,aL];rfl
   cases hk:bK p k
   ·rw [hk] at hls;have hp:bB nk k=i:=by rw [HD.out,tf hk];rfl
    have HV:=hid hp;have HB2:=hid (HB.out hp);clear hp hk;by_cases hq:p=k
    ·rw [decide_eq_true hq] at heq;rw [decide_eq_true hq] at HB2;clear hq;go_upto_region 6 with fail
     have f1:=aU a1 a4;have f2:=aU c0 hbl;refine aJ (by kernel_rfl) (by kernel_rfl) ?_
     repeat (go_big_quiet_step (fail))
     refine wpQuiet_nil ?_;rintro w7 ⟨⟨w8,hb8⟩,rfl⟩;have HB8:=hid (HW3.out.trans (hb8.mono HW3.out.size));clear hb8;go_wp2_with fail;go_ret2;exact ⟨by rw [HV.out,HB2.out];rfl,HB8.out⟩
    ·rw [decide_eq_false hq] at heq;rw [decide_eq_false hq] at HB2;clear hq;go_upto_region 6 with fail
     have f1:=aU a1 a4;have f2:=aU c0 hbl;refine aJ (by kernel_rfl) (by kernel_rfl) ?_
     repeat (go_big_quiet_step (fail))
     refine wpQuiet_nil ?_;rintro w7 ⟨⟨w8,hb8⟩,rfl⟩;have HB8:=hid (HW3.out.trans (hb8.mono HW3.out.size));clear hb8;go_wp2_with fail;go_ret2;exact ⟨by rw [HV.out,HB2.out];rfl,HB8.out⟩
   ·rw [hk] at hls;have HE2:=hid (show bB nk k=(i+1)+bB (nk.drop (i+1)) k by rw [HD.out,sj hk];omega);clear hk;go_wp2_with fail;go_roundw
    case rel=>exact ⟨i+1,by go_num,hlt,HE2.out,by trivial⟩
    case measure=>simp [intOf];omega
  ·obtain rfl:i=nk.length:=by omega
   have hp:bB nk k=nk.length:=by rw [HE.out,List.drop_length];rfl
   have HV:=hid hp;have HB2:=hid (sk hp);have hl0:decide ((nk.length:Int)<(nk.length:Int))=false:=decide_eq_false (by omega);clear hp HE hlt hi;go_upto_region 6 with fail
   have f1:=aU a1 a4;skip;refine aJ (by kernel_rfl) (by kernel_rfl) ?_
   repeat (go_big_quiet_step (fail))
   refine wpQuiet_nil ?_;rintro w7 ⟨⟨w8,hb8⟩,rfl⟩;have HB8:=hid (HW3.out.trans (hb8.mono HW3.out.size));clear hb8;go_wp2_with fail;go_ret2;exact ⟨by rw [HV.out,HB2.out];rfl,HB8.out⟩
theorem mZ {x:By} {ks:List By} {k:By} (h:bK k x=false):fK (x :: ks) k=fK ks k+1:=by unfold fK;rw [List.takeWhile_cons,if_pos (by rw [h];rfl)];rfl
theorem si {x:By} {ks:List By} {k:By} (h:bK k x=true):fK (x :: ks) k=0:=by unfold fK;rw [List.takeWhile_cons,if_neg (by rw [h];simp)];rfl
theorem qG (root:Int) (k:By) (b0 b1 m gu gb:Nat) (s:Sf) (w:World) (h:RqIs b0 b1 m w gu gb s) (hm:m≤1000000):
  Calls Tryz.prog 23 #[.pointer (some ⟨gu,0,none⟩),.int .i64 root,.string (al k)] w fun e w'=>sJ e ((bo 20 root k).run s).2∧Below w.heap.size w w':=by
 have H0:=hid h;have HBS:=hid (jl h.left 0).1;clear h;go_enter Tryz.func23,Tryz.ntmps23;go_wp2_with fail;go_loopw [9,10] (fun av iv wr=>∃ (f:Nat) (at_:Int),f≤20∧av=.int .i64 at_∧iv=.int .i64 (20 - f:Int)∧(bo 20 root k).run s=(bo f at_ k).run s∧Below w.heap.size w wr) (fun _ iv _=>20 - (intOf iv).toNat)
 case atStart=>exact ⟨20,root,Nat.le_refl _,rfl,rfl,rfl,Below.refl _ _⟩
 case round=>
  obtain ⟨f,at_,hf,rfl,rfl,hr,hb⟩:=hrel;have HR:=hid hr;have HB:=hid hb;have HRQ:=hid (H0.out.ch (S:=fun _=>False) ⟨hb.os,hb.tape,hb.output,hb.size,fun k hk _=>hb.block k hk⟩ (fun _ h=>h.elim) H0.out.b01);have hszr:=hb.size;clear hr hb;cases f with
  | zero=> have HV:=hid (show (bo 20 root k).run s=(s,.err 30) from HR.out);go_wp2_with fail;go_ret3;rw [HV.out];exact ⟨rfl,HB.out⟩
  | succ f=>
    have hi:(20 - ((f+1:Nat):Int))<20:=by omega
    have hi0:0≤(20 - ((f+1:Nat):Int)):=by omega
    have HN:=hid (show 20 - ((f+1:Nat):Int)+1=20 - (f:Int) by omega);have HRF:=hid (show (bo 20 root k).run s=((aV at_).bind fun n=>if n.leaf then fV n k else bo f (n.kids.getD (bT n k) 0) k).run s from HR.out)
    have HRD:=hid (show (aV at_).run s=if bc s at_=0 then ((match cN (s.B at_) with
     | none=>Pro.fail 30
     | some n=>.pure n:Pro Nd)).run (bl s) else (bl s,.err (bc s at_)) from rfl)
    rw [HBS.out] at HRD;have h232:=HRQ.out.len at_;generalize 20 - ((f+1:Nat):Int)=ii at *;go_wp2_with fail;refine (kX at_ b0 b1 m gu gb s wr HRQ.out hm).mono ?_;rintro e w2 ⟨rfl,hb2⟩;have HB2:=hid (HB.out.trans (hb2.mono hszr));have hsz2:=hb2.size;clear hb2;by_cases hbe:bc s at_=0
    ·have HRD2:=hid (HRD.out.trans (if_pos hbe));have hgv:fS s at_=s.B at_:=by unfold fS;rw [if_pos hbe]
     rw [hgv,hbe];clear hgv hbe HRD;generalize s.B at_=l at *;go_wp2_with fail;refine (mK l h232 w2).mono ?_;rintro e w3 ⟨v,c,rfl,hd,hb3⟩;have HB3:=hid (HB2.out.trans (hb3.mono (by omega)));have hsz3:=hb3.size;clear hb3;cases hdn:cN l with
     | none=> rw [hdn] at hd HRD2;obtain ⟨rfl,rfl⟩:=hd;have HV:=hid (show (bo 20 root k).run s=(s,.err 30) from HRF.out.trans (ak HRD2.out));have HB4:=hid (HB3.out.alloc (by omega) (ap Nd.zero (.slice none 0 0) (.slice none 0 0) (.slice none 0 0)));go_wp2_with fail;go_ret3;rw [HV.out];exact ⟨rfl,HB4.out⟩
     | some n=>
       rw [hdn] at hd HRD2;obtain ⟨rfl,vk,vc,vd,rfl,h1,h2,h3,h4⟩:=hd;have HV:=hid (show (bo 20 root k).run s=(if n.leaf then fV n k else bo f (n.kids.getD (bT n k) 0) k).run s from HRF.out.trans (af HRD2.out));obtain ⟨hg,hl232,hfl⟩:=du hdn;have HGD:=hid hg;have HBD:=hid ((cU (show (aV at_).run s=(s,.ok n) from HRD2.out)).2.bd (by decide));clear hdn hfl hl232 hg h232 HRD2 HRF;obtain ⟨A1,c1,rfl⟩:=Sl.len' (h1.sl aP);obtain ⟨A2,c2,rfl⟩:=Sl.len' (h2.sl bu);obtain ⟨A3,c3,rfl⟩:=Sl.len' (h3.sl aA);have HN2:=hid (show NdS w3 n (.slice A1 n.keys.length c1) (.slice A2 n.cells.length c2) (.slice A3 n.kids.length c3) from ⟨h1.sl aP,h2.sl bu,h3.sl aA⟩);clear h1 h2 h3 h4;have HX4:=hid (ag (w0:=w3) (g:=w3.heap.size) (o:=ap n (.slice A1 n.keys.length c1) (.slice A2 n.cells.length c2) (.slice A3 n.kids.length c3)) rfl);have HB4:=hid (HB3.out.alloc (by omega) (ap n (.slice A1 n.keys.length c1) (.slice A2 n.cells.length c2) (.slice A3 n.kids.length c3)));have HN4:=hid (HN2.out.keep ((Below.refl _ w3).alloc (Nat.le_refl _) (ap n (.slice A1 n.keys.length c1) (.slice A2 n.cells.length c2) (.slice A3 n.kids.length c3))));go_upto_region 11 with fail
       generalize hw1:w3.alloc (.cells #[.bool n.leaf,.slice A1 n.keys.length c1,.slice A2 n.cells.length c2,.slice A3 n.kids.length c3] 110)=w4 at *;have hw2:w3.alloc (ap n (.slice A1 n.keys.length c1) (.slice A2 n.cells.length c2) (.slice A3 n.kids.length c3))=w4:=hw1;rw [hw2] at HX4 HB4 HN4;clear hw1 hw2;obtain ⟨a0,a1,a2,a3,a4⟩:=aa HX4.out;generalize w3.heap.size=gn at *;have hsz4:=HB4.out.size;cases hl:n.leaf
       ·rw [hl] at a0 HV;have HV1:=hid (show (bo 20 root k).run s=(bo f (n.kids.getD (bT n k) 0) k).run s from HV.out);obtain ⟨i1,i2,i3,i4,i5,i6⟩:=aI HGD.out hl;have HLK:=hid (show bT n k=fK n.keys k from (oS (rises_pw.1 i1).2).symm);have hk2:=HBD.out.k;obtain ⟨nl,nk,nc,nd⟩:=n;simp only at a0 a1 a2 a3 HV1 HLK hk2 i3 HN4 HX4 hl;clear i1 i2 i4 i5 i6;go_wp2_with fail;have HX5:=HX4;have HN5:=HN4;have HB5:=HB4;obtain ⟨wo,hwo⟩:∃ wo:World,wo=wr:=⟨_,rfl⟩;subst hwo;go_loopw [19] (fun iv w9=>∃ i:Nat,iv=.int .i64 i∧i≤nk.length∧fK nk k=i+fK (nk.drop i) k∧w9=w4) (fun iv _=>nk.length - (intOf iv).toNat)
        case atStart=>exact ⟨0,rfl,Nat.zero_le _,by simp,rfl⟩
        case round=>
         obtain ⟨i,rfl,hi,he,rfl⟩:=hrel;have HE:=hid he;clear he;by_cases hlt:i<nk.length
         ·obtain ⟨b,off,rfl,hbl,-,c0⟩:=HN4.out.k.key hlt;have hi1:(i:Int)<(nk.length:Int):=by omega
          have HD:=hid (show fK nk k=i+fK (nk[i] :: nk.drop (i+1)) k by rw [← List.drop_eq_getElem_cons hlt];exact HE.out);generalize hpi:nk[i]=p at *;clear hpi HE;have hls:Op.bytesLess (al p).toList (al k).toList=bK p k:=by rw [aL,aL];rfl
          have heq:=qA (a:=p) (b:=k);rcases fM p k with hk | hk | hk
          ·rw [hk] at hls;have HE2:=hid (show fK nk k=(i+1)+fK (nk.drop (i+1)) k by rw [HD.out,mZ (bg hk)];omega);clear hk heq;go_wp2_with fail;go_roundw
           case rel=>exact ⟨i+1,by go_num,hlt,HE2.out,by trivial⟩
           case measure=>simp [intOf];omega
          ·rw [hk,dA] at hls;rw [decide_eq_true hk] at heq;have HE2:=hid (show fK nk k=(i+1)+fK (nk.drop (i+1)) k by rw [HD.out,mZ (by rw [hk,dA])];omega);clear hk;go_wp2_with fail;go_roundw
           case rel=>exact ⟨i+1,by go_num,hlt,HE2.out,by trivial⟩
           case measure=>simp [intOf];omega
          ·rw [bg hk] at hls;rw [decide_eq_false (fN hk).symm] at heq;have hp:fK nk k=i:=by rw [HD.out,si hk];rfl
           have hkn:i<nd.length:=by omega
           obtain ⟨b3,off3,rfl,hbl3,hc3⟩:=HN4.out.d.int hkn;have hk3:((i:Nat):Int)<(nd.length:Int):=by omega
           have HV2:=hid (show (bo 20 root k).run s=(bo f nd[i] k).run s by
            rw [HV1.out,HLK.out,hp,List.getD_eq_getElem?_getD,List.getElem?_eq_getElem hkn];rfl)
           clear hp;generalize nd[i]=kd at *;go_wp2_with fail;go_roundw
           case rel=>exact ⟨f,kd,by omega,rfl,by rw [HN.out],HV2.out,HB4.out⟩
           case measure=>simp [intOf];omega
         ·obtain rfl:i=nk.length:=by omega
          have hp:fK nk k=nk.length:=by rw [HE.out,List.drop_length];rfl
          clear hlt hi HE;have hkn:nk.length<nd.length:=by omega
          obtain ⟨b3,off3,rfl,hbl3,hc3⟩:=HN4.out.d.int hkn;have hk3:((nk.length:Nat):Int)<(nd.length:Int):=by omega
          have HV2:=hid (show (bo 20 root k).run s=(bo f nd[nk.length] k).run s by
           rw [HV1.out,HLK.out,hp,List.getD_eq_getElem?_getD,List.getElem?_eq_getElem hkn];rfl)
          clear hp;generalize nd[nk.length]=kd at *;go_wp2_with fail;go_roundw
          case rel=>exact ⟨f,kd,by omega,rfl,by rw [HN.out],HV2.out,HB4.out⟩
          case measure=>simp [intOf];omega
       ·rw [hl] at a0 HV;have HV1:=hid (show (bo 20 root k).run s=(fV n k).run s from HV.out);have HCL:=hid (bS HGD.out hl).2.1;have HF:=hid (pI n k _ w4 ⟨_,_,_,rfl,HN4.out⟩ HBD.out HGD.out);rw [hl] at HF;go_wp2_with fail;refine HF.out.mono ?_;rintro e w5 ⟨rfl,hb⟩;have HX5:=hid (ae HX4.out hb);have HB5:=hid (HB4.out.trans (hb.mono hsz4));have HN5:=hid (HN4.out.keep hb);clear hb a0 a1 a2 a3 a4;obtain ⟨a0,a1,a2,a3,a4⟩:=aa HX5.out;rw [hl] at a0;cases his:fO n.keys k
        ·have HV2:=hid (show (bo 20 root k).run s=(s,.ok none) by rw [HV1.out];unfold fV;rw [his];rfl);go_wp2_with fail;go_ret3;rw [HV2.out];exact ⟨rfl,HB5.out⟩
        ·have hlt:bB n.keys k<n.cells.length:=by have:=(eE his).1;have:=HCL.out;omega
         have HV2:=hid (show (bo 20 root k).run s=((bb n.cells[bB n.keys k]).bind fun r=>.pure (some r.1)).run s by
          rw [HV1.out];unfold fV;rw [his,if_pos rfl,List.getD_eq_getElem?_getD,List.getElem?_eq_getElem hlt];rfl)
         obtain ⟨b,off,he,hbl,hn',e0,e1,e2⟩:=(show Sl cC 3 w5 (.slice A2 n.cells.length c2) n.cells from HN5.out.c).cell3 hlt;subst he;have hk1:(bB n.keys k:Int)<(n.cells.length:Int):=by omega
         generalize n.cells[bB n.keys k]=c at *;generalize bB n.keys k=lb at *;have HRQ5:=hid (H0.out.ch (S:=fun _=>False) ⟨HB5.out.os,HB5.out.tape,HB5.out.output,HB5.out.size,fun k hk _=>HB5.out.block k hk⟩ (fun _ h=>h.elim) H0.out.b01);have HCV:=hid (n7 c b0 b1 m gu gb s w5 HRQ5.out hm);go_wp2_with fail;refine HCV.out.mono ?_;rintro e w6 ⟨hp,hb⟩;have HB6:=hid (HB5.out.trans (hb.mono HB5.out.size));clear hb a0 a1 a2 a3 a4 e0 e1 e2;have hwz:=fF (c:=c) (s:=s);have hws:=nQ H0.out.left c;obtain ⟨⟨s3,a⟩,hx⟩:∃ x,(bb c).run s=x:=⟨_,rfl⟩;rw [hx] at hp hwz hws;simp only at hws;subst hws;cases a with
         | ok r=> obtain ⟨d,ps⟩:=r;obtain ⟨vl,rfl,-⟩:=hp;have HV3:=hid (show (bo 20 root k).run s3=(s3,.ok (some d)) from HV2.out.trans (af hx));go_wp2_with fail;go_ret3;rw [HV3.out];exact ⟨rfl,HB6.out⟩
         | err x=>
           obtain rfl:=hp;have hx0:¬ x=0:=hwz x rfl;have hx1:(x == 0)=false:=by simpa using hx0
           have HV3:=hid (show (bo 20 root k).run s3=(s3,.err x) from HV2.out.trans (ak hx));go_wp2_with fail;go_ret3;rw [HV3.out];exact ⟨rfl,HB6.out⟩
    ·have HV:=hid (show (bo 20 root k).run s=(s,.err (bc s at_)) from HRF.out.trans (ak (HRD.out.trans (if_neg hbe))));generalize bc s at_=be at *;have hbe2:(be == 0)=false:=by simpa using hbe
     have hbe3:(be != 0)=true:=by simpa using hbe
     go_wp2_with fail;go_ret3;rw [HV.out];exact ⟨rfl,HB2.out⟩
structure RdI (gs gm b0 b1 gu gb:Nat) (i:Nat) (s:Sf) (w:World):Prop where
 sh:ShIs w gs gm s
 rq:RqIs b0 b1 (2 * i) w gu gb s
 sp:s.h.spare=0
 pg:s.h.pages=(i:Int)+1
 lim:s.lim=60
 lo:gs<b0∧gm<b0
theorem RdI.lows {gs gm b0 b1 gu gb i:Nat} {s:Sf} {w:World} (h:RdI gs gm b0 b1 gu gb i s w):∀ k,(k=gs∨k=gm)→k<b0:=fun _ hk=>hk.elim (fun e=>e ▸ h.lo.1) (fun e=>e ▸ h.lo.2)
theorem g5 {e e':Ending} {a:Ans (Option By)} (h:sJ e a) (h':sJ e' a):∃ (x:By) (b:Bool) (c:Int),e=.returned (.tuple #[.string (al x),.bool b,.int .i64 c])∧e'=.returned (.tuple #[.string (al x),.bool b,.int .i64 c]):=by
 cases a with
 | ok o=>
   cases o with
   | none=>exact ⟨[],false,0,h,h'⟩
   | some v=>exact ⟨v,true,0,h,h'⟩
 | err x=>exact ⟨[],false,x,h,h'⟩
theorem pC (pages:List By) (key:By) (pv:Value) (root:Int) (w:World) (hp:Sl sC 1 w pv pages):
  Calls Tryz.prog 3 #[pv,.int .i64 root,.string (al key)] w fun e w'=>e=.returned (.bool true)∧Below w.heap.size w w':=by
 obtain ⟨Ap,cp,rfl⟩:=Sl.len' hp;have HP:=hid hp;clear hp;go_enter Tryz.func3,Tryz.ntmps3;go_wp2_with fail;refine (nK w).mono ?_;rintro e w0 ⟨rfl,hb⟩;have HB0:=hid hb;clear hb;go_wp2_with fail;refine (g9 60 w0).mono ?_;rintro e w1 ⟨gs,gm,rfl,hs,h1,h2,hb⟩;have HS1:=hid (show ShIs w1 gs gm (ma 60) from hs);have HB1:=hid (HB0.out.trans (hb.mono HB0.out.size));have HLO:=hid (show gs<w1.heap.size∧gm<w1.heap.size from ⟨aj hs.blk,hs.book.lt⟩);have HGS:=hid (show w.heap.size≤gs∧w.heap.size≤gm from ⟨Nat.le_trans HB0.out.size h1,Nat.le_trans HB0.out.size h2⟩);clear hs h1 h2 hb;go_wp2_with fail;refine (jT 60 w1 (by decide) (by decide)).mono ?_;rintro e w2 ⟨gu,gb,b1,rfl,hu,hb⟩;have HB2:=hid (HB1.out.trans (hb.mono HB1.out.size));have HI:=hid (show RdI gs gm w1.heap.size b1 gu gb 0 (ma 60) w2 from
  ⟨HS1.out.ch (S:=fun _=>False) (Ch.of_below hb) id id,hu.mono (Nat.zero_le _),rfl,rfl,by decide,HLO.out⟩)
 have HBL:=hid HB1.out.size;clear hu hb;generalize w1.heap.size=b0 at *;go_wp2_with fail;go_loopw [9] (fun iv wr=>∃ (i:Nat) (s:Sf),iv=.int .i64 i∧i≤12∧i≤pages.length∧RdI gs gm b0 b1 gu gb i s wr∧Below w.heap.size w wr) (fun iv _=>12 - (intOf iv).toNat)
 case atStart=>exact ⟨0,ma 60,rfl,by omega,Nat.zero_le _,HI.out,HB2.out⟩
 case round=>
  obtain ⟨i,s,rfl,hi,hil,hri,hb⟩:=hrel;have HI:=hid hri;have HB:=hid hb;have HPW:=hid (HP.out.keep hb);clear hri hb;by_cases hg:i<pages.length∧i<12
  ·obtain ⟨hg1,hg2⟩:=hg;have hg3:(i:Int)<(pages.length:Int):=by omega
   have hg4:(i:Int)<12:=by omega
   have hwi:IntKind.i64.wrap ((i:Int)+1)=((i+1:Nat):Int):=by rw [IntWalk.i64_in _ (by omega)];rfl
   have HQ:=hid (qH HI.out.rq.left HI.out.sp (by rw [HI.out.pg,HI.out.lim];omega) (by rw [HI.out.lim];decide));have HPG:=hid (show bs (al pages[i])=pages[i] from rfl);go_wp2_with fail;refine (en gs gm s wr HI.out.sh).mono ?_;rw [HQ.out.1,HQ.out.2.1,HQ.out.2.2];rintro e w3 ⟨rfl,hs,hc⟩;have HS3:=hid hs;have HU3:=hid (HI.out.rq.ch hc HI.out.lows HI.out.rq.b01);have HB3:=hid (HB.out.trans (hc.below HB.out.size (fun k hk=>hk.elim (fun e=>e ▸ HGS.out.1) (fun e=>e ▸ HGS.out.2))));clear hs hc;go_wp2_with fail;refine (pz b0 b1 (2 * i) gu gb s w3 HU3.out (by omega) HI.out.sp (by rw [HI.out.pg];omega) (by rw [HI.out.pg,HI.out.lim];omega) (by rw [HI.out.lim];decide)).mono ?_;rintro e w4 ⟨rfl,hu,hb⟩;have HU4:=hid hu;have HS4:=hid (HS3.out.ch (S:=fun k=>b0≤k) ⟨hb.os,hb.tape,hb.output,hb.size,fun k hk hn=>hb.block k (by omega)⟩ (by have:=HI.out.lo.1;omega) (by have:=HI.out.lo.2;omega));have HB4:=hid (HB3.out.trans (hb.mono HBL.out));clear hu hb;have HBE:=hid (show bc (fh s) ((i+1:Nat):Int)=0 by
    unfold bc fh;simp only;rw [if_neg (by have:=HI.out.rq.left;omega),if_neg (by have:=HI.out.pg;omega)])
   obtain ⟨b,off,rfl,hbl,-,hc⟩:=(HP.out.keep HB4.out).key hg1;generalize hpi:pages[i]=pg at *;have HPI:=hid hpi;clear hpi;go_wp2_with fail;refine (gD (al pg) w4).mono ?_;rw [aW];rintro e w5 ⟨rfl,hb⟩;have HS5:=hid (HS4.out.ch (S:=fun _=>False) (Ch.of_below hb) id id);have HU5:=hid (HU4.out.below hb);have HB5:=hid (HB4.out.trans (hb.mono HB4.out.size));clear hb hc hbl;have HX:=hid (cY pg);have HPE:=hid (show hZ (fh s) ((i+1:Nat):Int) (aD pg)=0∧iW (fh s) ((i+1:Nat):Int) (aD pg)=jW (fh s) ((i+1:Nat):Int) (aD pg) by
    unfold hZ iW;rw [if_pos HBE.out,if_pos HX.out,if_pos ⟨HBE.out,HX.out⟩,(jl (s:=fh s) HI.out.rq.left 0).1];exact ⟨rfl,rfl⟩)
   generalize hfp:aD pg=fp at *;have HFP:=hid hfp;clear hfp;go_wp2_with fail;refine (jS ((i+1:Nat):Int) (al fp) gs gm (fh s) w5 HS5.out).mono ?_;rw [aW,HPE.out.1,HPE.out.2];rintro e w6 ⟨rfl,hs,hc⟩;have HS6:=hid hs;have HU6:=hid (HU5.out.ch hc HI.out.lows HI.out.rq.b01);have HB6:=hid (HB5.out.trans (hc.below HB5.out.size (fun k hk=>hk.elim (fun e=>e ▸ HGS.out.1) (fun e=>e ▸ HGS.out.2))));clear hs hc;obtain ⟨b',off',he,hbl,-,hc⟩:=(HP.out.keep HB6.out).key hg1;injection he with he
   injection he with e1 e2
   subst e1 e2;rw [HPI.out] at hc;go_wp2_with fail;refine (gD (al pg) w6).mono ?_;rw [aW,HFP.out];rintro e w7 ⟨rfl,hb⟩;have HS7:=hid (HS6.out.ch (S:=fun _=>False) (Ch.of_below hb) id id);have HU7:=hid (HU6.out.below hb);have HB7:=hid (HB6.out.trans (hb.mono HB6.out.size));clear hb hc hbl;go_wp2_with fail;refine (py ((i+1:Nat):Int) fp b0 b1 (2 * i+1) gu gb (fh s) w7 HU7.out (by omega) HX.out HBE.out).mono ?_;rintro e w8 ⟨rfl,hu,hb⟩;have HU8:=hid hu;have HS8:=hid (HS7.out.ch (S:=fun k=>b0≤k) ⟨hb.os,hb.tape,hb.output,hb.size,fun k hk hn=>hb.block k (by omega)⟩ (by have:=HI.out.lo.1;omega) (by have:=HI.out.lo.2;omega));have HB8:=hid (HB7.out.trans (hb.mono HBL.out));clear hu hb;have HI2:=hid (show RdI gs gm b0 b1 gu gb (i+1) (jW (fh s) ((i+1:Nat):Int) fp) w8 from
    ⟨HS8.out,HU8.out,HI.out.sp,by show s.h.pages+1=_;rw [HI.out.pg];omega,HI.out.lim,HI.out.lo⟩)
   go_wp2_with fail;go_roundw
   case rel=>exact ⟨i+1,_,by go_num,by omega,by omega,HI2.out,HB8.out⟩
   case measure=>simp [intOf];omega
  ·have HGT:=hid (o8 root key gs gm s wr HI.out.sh);have HRT:=hid (fun w' h=>qG root key b0 b1 (2 * i) gu gb s w' h (by omega));by_cases hl:i<pages.length
   ·have hg3:(i:Int)<(pages.length:Int):=by omega
    have hg4:¬ (i:Int)<12:=fun h=>hg ⟨hl,by omega⟩
    have hg5:(12:Int)≤(i:Int):=by omega
    clear hg hl;go_wp2_with fail;unfold bV at HGT;refine HGT.out.mono ?_;rintro e w3 ⟨hg,-,hc⟩;have HU3:=hid (HI.out.rq.ch hc HI.out.lows HI.out.rq.b01);have HB3:=hid (HB.out.trans (hc.below HB.out.size (fun k hk=>hk.elim (fun e=>e ▸ HGS.out.1) (fun e=>e ▸ HGS.out.2))));have HG:=hid hg;obtain ⟨x0,q0,c0,rfl,-⟩:=g5 hg hg;clear hg hc;go_wp2_with fail;refine (HRT.out w3 HU3.out).mono ?_;rintro e w4 ⟨hg,hb⟩;have HB4:=hid (HB3.out.trans (hb.mono HB3.out.size));obtain ⟨x,q,c,he,rfl⟩:=g5 HG.out hg;have hx:al x0=al x∧q0=q∧c0=c:=by simpa using he
    obtain ⟨hx1,rfl,rfl⟩:=hx;rw [hx1];clear hb hg he hx1;have h9:((al x).toList == (al x).toList)=true:=by simp
    have h8:(q0 == q0)=true:=by simp
    go_wp2_with fail;go_ret;exact ⟨rfl,HB4.out⟩
   ·obtain rfl:i=pages.length:=by omega
    clear hg hl hil;go_wp2_with fail;unfold bV at HGT;refine HGT.out.mono ?_;rintro e w3 ⟨hg,-,hc⟩;have HU3:=hid (HI.out.rq.ch hc HI.out.lows HI.out.rq.b01);have HB3:=hid (HB.out.trans (hc.below HB.out.size (fun k hk=>hk.elim (fun e=>e ▸ HGS.out.1) (fun e=>e ▸ HGS.out.2))));have HG:=hid hg;obtain ⟨x0,q0,c0,rfl,-⟩:=g5 hg hg;clear hg hc;go_wp2_with fail;refine (HRT.out w3 HU3.out).mono ?_;rintro e w4 ⟨hg,hb⟩;have HB4:=hid (HB3.out.trans (hb.mono HB3.out.size));obtain ⟨x,q,c,he,rfl⟩:=g5 HG.out hg;have hx:al x0=al x∧q0=q∧c0=c:=by simpa using he
    obtain ⟨hx1,rfl,rfl⟩:=hx;rw [hx1];clear hb hg he hx1;have h9:((al x).toList == (al x).toList)=true:=by simp
    have h8:(q0 == q0)=true:=by simp
    go_wp2_with fail;go_ret;exact ⟨rfl,HB4.out⟩
end Go.Proofs.YtknioodagnjchaaGreatDoor
