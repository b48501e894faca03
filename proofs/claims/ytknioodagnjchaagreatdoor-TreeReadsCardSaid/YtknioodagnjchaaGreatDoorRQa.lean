/- cahierref08: page, cell, Good. cahierref08: bytes, Encode. -/
import Derived.Test.YtknioodagnjchaaGreatDoorRNo
import Derived.Test.YtknioodagnjchaaGreatDoorRNb
set_option maxRecDepth 100000
set_option maxHeartbeats 4000000
namespace Go.Proofs.YtknioodagnjchaaGreatDoor
open Go.Lib (hid)
open Go.RowKit
theorem iU (n:Int) (w:World):Calls Tryz.prog 166 #[.int .i64 n] w fun e w'=>e=.returned (.bool (cm n))∧w=w':=by
 go_enter Tryz.func166,Tryz.ntmps166;by_cases h1:1≤n
 ·have HV:=hid (show cm n=decide (n≤4095) by unfold cm;rw [decide_eq_true h1];simp;omega);go_wp2_with fail;go_ret;exact ⟨by rw [HV.out];rfl,rfl⟩
 ·have HV:=hid (show cm n=false by unfold cm;rw [decide_eq_false h1];rfl);have h2:n<1:=by omega
  go_wp2_with fail;go_ret;exact ⟨by rw [HV.out];rfl,rfl⟩
theorem pK (c:Ce) (w:World):Calls Tryz.prog 165 #[.agg #[.int .i64 c.size,.string (al c.data),.int .i64 c.page]] w fun e w'=>e=.returned (.bool (aE c))∧Below w.heap.size w w':=by
 obtain ⟨sz,da,pg⟩:=c;have HB:=hid ((Below.refl _ w).alloc (Nat.le_refl _) (cF ⟨sz,da,pg⟩));have HG:=hid (ag (w0:=w) (g:=w.heap.size) (o:=cF ⟨sz,da,pg⟩) rfl);have hsz2:((al da).size:Int)=(da.length:Int):=by rw [aq]
 go_enter Tryz.func165,Tryz.ntmps165;go_upto_region 1 with fail
 generalize hw1:w.alloc (.cells #[.int .i64 sz,.string (al da),.int .i64 pg] 119)=w1 at *;have hw2:w.alloc (cF ⟨sz,da,pg⟩)=w1:=hw1;rw [hw2] at HB HG;clear hw1 hw2;have a0:w1.cell? ⟨w.heap.size,0,none⟩=some (.int .i64 sz):=ac HG.out 0;have a1:w1.cell? ⟨w.heap.size,1,none⟩=some (.string (al da)):=ac HG.out 1;have a2:w1.cell? ⟨w.heap.size,2,none⟩=some (.int .i64 pg):=ac HG.out 2;have a3:=aj HG.out;by_cases h1:sz<0
 ·have HV:=hid (show aE ⟨sz,da,pg⟩=false by simp [aE,h1]);go_wp2_with fail;go_ret;exact ⟨by rw [HV.out];rfl,HB.out⟩
 ·have h2:(0:Int)≤sz:=by omega
  by_cases h3:5000<sz
  ·have HV:=hid (show aE ⟨sz,da,pg⟩=false by simp [aE,h3]);go_wp2_with fail;go_ret;exact ⟨by rw [HV.out];rfl,HB.out⟩
  ·have h4:sz≤5000:=by omega
   by_cases h5:sz≤40
   ·by_cases h6:(da.length:Int)=sz
    ·have h7:(((al da).size:Int) == sz)=true:=by rw [hsz2,h6];simp
     have HV:=hid (show aE ⟨sz,da,pg⟩=(pg == 0) by
      unfold aE;rw [if_neg (by simp only;omega),if_pos h5];simp [h6];rfl)
     clear hsz2 h6;go_wp2_with fail;go_ret;exact ⟨by rw [HV.out];rfl,HB.out⟩
    ·have h7:(((al da).size:Int) == sz)=false:=by rw [hsz2];simpa using h6
     have HV:=hid (show aE ⟨sz,da,pg⟩=false by
      unfold aE;rw [if_neg (by simp only;omega),if_pos h5];simp [h6])
     clear hsz2 h6;go_wp2_with fail;go_ret;exact ⟨by rw [HV.out];rfl,HB.out⟩
   ·have h5b:(40:Int)<sz:=by omega
    by_cases h6:da=[]
    ·subst h6;have HV:=hid (show aE ⟨sz,[],pg⟩=cm pg by
      unfold aE;rw [if_neg (by simp only;omega),if_neg (by simp only;omega)];simp)
     have h8:(al ([]:List UInt8)).toList.isEmpty=true:=by rw [aL];rfl
     clear hsz2;go_wp2_with fail;refine (iU pg w1).mono ?_;rintro e w2 ⟨rfl,rfl⟩;go_wp2_with fail;go_ret;exact ⟨by rw [HV.out];rfl,HB.out⟩
    ·have h8:(al da).toList.isEmpty=false:=by rw [aL];simpa using h6
     have HV:=hid (show aE ⟨sz,da,pg⟩=false by
      unfold aE;rw [if_neg (by simp only;omega),if_neg (by simp only;omega)];simp [h6])
     clear hsz2 h6;go_wp2_with fail;go_ret;exact ⟨by rw [HV.out];rfl,HB.out⟩
theorem Sl.int {w:World} {A:Option Addr} {n c k:Nat} {xs:List Int} (h:Sl iC 1 w (.slice A n c) xs) (hk:k<xs.length):∃ b off,A=some ⟨b,off,none⟩∧b<w.heap.size∧w.cell? ⟨b,off+k,none⟩=some (.int .i64 xs[k]):=by
 obtain ⟨b,off,c',he,hbl,hsl⟩:=h.at1 hk;injection he with e1 e2 e3
 exact ⟨b,off,e1,hbl,by simpa [iC] using hsl 0 _ rfl⟩
theorem sU {l:List Int} {i:Nat} (hi:i<l.length) (h:cm l[i]=false):bP l=false:=by
 unfold bP;have:l.all cm=false:=by rw [List.all_eq_false];exact ⟨l[i],List.getElem_mem hi,by rw [h];simp⟩
 rw [this,Bool.and_false]
theorem rJ {l:List Int} {i k:Nat} (hi:i<l.length) (hk:k<i) (h:(l[k]'(by omega))=l[i]):bP l=false:=by
 unfold bP;have:¬ l.Nodup:=fun hn=>List.pairwise_iff_getElem.1 hn k i (by omega) hi hk h
 rw [decide_eq_false this];rfl
theorem qu {l:List Int} {i:Nat} (hi:i<l.length) (h:bP (l.take i)=true) (hp:cm l[i]=true) (hn:∀ k,(h:k<i)→(l[k]'(by omega))≠l[i]):bP (l.take (i+1))=true:=by unfold bP at *;rw [Bool.and_eq_true,decide_eq_true_eq] at *;rw [List.take_succ_eq_append_getElem hi,List.nodup_append,List.all_append,h.2];refine ⟨⟨h.1,by simp,fun a ha b hb=>?_⟩,by simp [hp]⟩;rw [List.mem_singleton] at hb;subst hb;obtain ⟨k,hk,rfl⟩:=List.getElem_of_mem ha;rw [List.getElem_take];exact hn k (by rw [List.length_take] at hk;omega)
theorem lm (n:Nd) (v:Value) (w:World) (h:NdV w v n) (hb:n.Bd):Calls Tryz.prog 117 #[v] w fun e w'=>e=.returned (.bool (aB n))∧Below w.heap.size w w':=by
 obtain ⟨vk,vc,vd,rfl,hs⟩:=h;obtain ⟨A1,c1,rfl⟩:=Sl.len' hs.k;obtain ⟨A2,c2,rfl⟩:=Sl.len' hs.c;obtain ⟨A3,c3,rfl⟩:=Sl.len' hs.d;have HW0:=hid ((Below.refl _ w).alloc (Nat.le_refl _) (ap n (.slice A1 n.keys.length c1) (.slice A2 n.cells.length c2) (.slice A3 n.kids.length c3)));have HG0:=hid (ag (w0:=w) (g:=w.heap.size) (o:=ap n (.slice A1 n.keys.length c1) (.slice A2 n.cells.length c2) (.slice A3 n.kids.length c3)) rfl);have HS0:=hid (hs.keep HW0.out);obtain ⟨nl,nk,nc,nd⟩:=n;have HB:=hid hb;have hk2:=hb.k;have hc2:=hb.c;have hd2:=hb.d;simp only at hk2 hc2 hd2 HS0 HG0 HW0;have HR0:=hid (show fZ (dv nk 0) (nk.drop 0)=aO nk from k8 nk);clear hs hb;go_enter Tryz.func117,Tryz.ntmps117;go_upto_region 1 with fail
 generalize hw1:w.alloc (.cells #[.bool nl,.slice A1 nk.length c1,.slice A2 nc.length c2,.slice A3 nd.length c3] 110)=w1 at *;have hw2:w.alloc (ap ⟨nl,nk,nc,nd⟩ (.slice A1 nk.length c1) (.slice A2 nc.length c2) (.slice A3 nd.length c3))=w1:=hw1;rw [hw2] at HW0 HG0 HS0;clear hw1 hw2;obtain ⟨a0,a1,a2,a3,a4⟩:=aa HG0.out;simp only at a0 a1 a2 a3;go_wp2_with fail;go_loopw [3] (fun i wr=>∃ k:Nat,k≤nk.length∧i=.int .i64 k∧fZ (dv nk k) (nk.drop k)=aO nk∧Below w1.heap.size w1 wr) (fun i _=>nk.length - (intOf i).toNat)
 case atStart=>exact ⟨0,Nat.zero_le _,rfl,HR0.out,Below.refl _ _⟩
 case round=>
  obtain ⟨k,hk,rfl,hr,hb⟩:=hrel;have HR:=hid hr;have HBB:=hid hb;have HG1:=hid (ae HG0.out hb);have HS1:=hid (HS0.out.keep hb);have HW1:=hid (HW0.out.trans (hb.mono (by have:=HW0.out.size;omega)));clear hr hb a0 a1 a2 a3 a4;obtain ⟨a0,a1,a2,a3,a4⟩:=aa HG1.out;simp only at a0 a1 a2 a3;by_cases hlt:k<nk.length
  ·obtain ⟨b,off,rfl,hbl,_,hc⟩:=HS1.out.k.key hlt;have hsz:(al nk[k]).size=nk[k].length:=aq _;have HS:=hid (kY hlt);have hkl:nk[k].length≤100000:=HB.out.kl _ (List.getElem_mem _);have hlt2:(k:Int)<(nk.length:Int):=by omega
   by_cases h64:64<nk[k].length
   ·have h64b:(64:Int)<((al nk[k]).size:Int):=by rw [hsz];omega
    have HV:=hid (show aB ⟨nl,nk,nc,nd⟩=false by
     have:aO nk=false:=by rw [← HR.out,HS.out,decide_eq_false (by omega)];rfl
     unfold aB;simp only;rw [this];rfl)
    clear hsz;generalize al nk[k]=x at *;go_upto_region 4 with fail
    have f1:=aU a1 a4;have f2:=aU hc hbl;refine aJ (by kernel_rfl) (by kernel_rfl) ?_
    repeat (go_big_quiet_step (fail))
    refine wpQuiet_nil ?_;rintro w7 ⟨⟨w8,hb8⟩,rfl⟩;have HB8:=hid hb8;clear hb8;go_wp2_with fail;go_ret;exact ⟨by rw [HV.out];rfl,HW1.out.trans (HB8.out.mono HW1.out.size)⟩
   ·have h64b:((al nk[k]).size:Int)≤64:=by rw [hsz];omega
    have h64d:decide ((64:Int)<((al nk[k]).size:Int))=false:=decide_eq_false (by omega);have h64c:decide (nk[k].length≤64)=true:=by simp;omega
    rcases Nat.eq_zero_or_pos k with h0 | h0
    ·have HV:=hid (show fZ (dv nk (k+1)) (nk.drop (k+1))=aO nk by
      rw [← HR.out,HS.out,h64c];simp [dv,h0])
     clear hsz h64c;subst h0;simp only [Nat.add_zero] at hc;have hz0:decide ((0:Int)<((0:Nat):Int))=false:=rfl;generalize al nk[0]=x at *;go_upto_region 4 with fail
     have f1:=aU a1 a4;have f2:=aU hc hbl;refine aJ (by kernel_rfl) (by kernel_rfl) ?_
     repeat (go_big_quiet_step (fail))
     refine wpQuiet_nil ?_;rintro w7 ⟨⟨w8,hb8⟩,rfl⟩;have HB8:=hid hb8;clear hb8;go_wp2_with fail;go_roundw
     case rel=>exact ⟨0+1,by omega,by go_num,HV.out,HBB.out.trans (HB8.out.mono HBB.out.size)⟩
     case measure=>simp [intOf];omega
    ·obtain ⟨m,rfl⟩:∃ m,k=m+1:=⟨k - 1,by omega⟩;obtain ⟨b',off',he,_,_,hc'⟩:=HS1.out.k.key (show m<nk.length by omega);injection he with he
     injection he with e1 e2
     subst e1 e2;have hcm:Op.bytesLess (al nk[m]).toList (al nk[m+1]).toList=bK nk[m] nk[m+1]:=by rw [aL,aL];rfl
     have HS2:=hid (show aO nk=(bK nk[m] nk[m+1] && fZ (dv nk (m+1+1)) (nk.drop (m+1+1))) by
      rw [← HR.out,HS.out,h64c];simp [dv,show m<nk.length by omega])
     have hi3:IntKind.i64.wrap (((m+1:Nat):Int) - 1)=(m:Int):=by rw [IntWalk.i64_in _ (by omega)];omega
     have hi4:(0:Int)<((m+1:Nat):Int):=by omega
     have hi6:decide ((0:Int)<((m+1:Nat):Int))=true:=decide_eq_true hi4;have hi5:(m:Int)<(nk.length:Int):=by omega
     clear hsz h64c;cases hcc:bK nk[m] nk[m+1]
     ·have HV:=hid (show aB ⟨nl,nk,nc,nd⟩=false by
       have:aO nk=false:=by rw [HS2.out,hcc];rfl
       unfold aB;simp only;rw [this];rfl)
      rw [hcc] at hcm;clear hcc HS2;generalize al nk[m+1]=x at *;generalize al nk[m]=y at *;go_upto_region 4 with fail
      have f1:=aU a1 a4;have f2:=aU hc hbl;have f3:=aU hc' hbl;refine aJ (by kernel_rfl) (by kernel_rfl) ?_
      repeat (go_big_quiet_step (fail))
      refine wpQuiet_nil ?_;rintro w7 ⟨⟨w8,hb8⟩,rfl⟩;have HB8:=hid hb8;clear hb8;go_wp2_with fail;go_ret;exact ⟨by rw [HV.out];rfl,HW1.out.trans (HB8.out.mono HW1.out.size)⟩
     ·have HV:=hid (show fZ (dv nk (m+1+1)) (nk.drop (m+1+1))=aO nk by rw [HS2.out,hcc];simp);rw [hcc] at hcm;clear hcc HS2;generalize al nk[m+1]=x at *;generalize al nk[m]=y at *;go_upto_region 4 with fail
      have f1:=aU a1 a4;have f2:=aU hc hbl;have f3:=aU hc' hbl;refine aJ (by kernel_rfl) (by kernel_rfl) ?_
      repeat (go_big_quiet_step (fail))
      refine wpQuiet_nil ?_;rintro w7 ⟨⟨w8,hb8⟩,rfl⟩;have HB8:=hid hb8;clear hb8;go_wp2_with fail;go_roundw
      case rel=>exact ⟨m+1+1,by omega,by go_num,HV.out,HBB.out.trans (HB8.out.mono HBB.out.size)⟩
      case measure=>simp [intOf];omega
  ·have HRS:=hid (show aO nk=true by
    rw [← HR.out,List.drop_of_length_le (by omega)];cases dv nk k <;> rfl)
   obtain rfl:k=nk.length:=by omega
   clear hlt hk HR;cases nl
   ·have HV:=hid (show aB ⟨false,nk,nc,nd⟩=(decide (nk≠[]) && decide (nd.length=nk.length+1) && decide (nc=[]) && bP nd) by unfold aB;rw [HRS.out];rfl);by_cases h1:nk=[]
    ·have HV2:=hid (show aB ⟨false,nk,nc,nd⟩=false by rw [HV.out];simp [h1]);have hl:(nk.length:Int)<1:=by rw [h1];simp
     have hl3:nk.length=0:=by rw [h1];rfl
     clear h1;go_wp2_with fail;go_ret;exact ⟨by rw [HV2.out];rfl,HW1.out⟩
    ·have hl:¬ ((nk.length:Int)<1):=by have:=List.length_pos_iff.2 h1;omega
     have hl2:(1:Int)≤(nk.length:Int):=by omega
     have hl3:¬ nk.length=0:=by omega
     have hl4:0<nk.length:=by omega
     by_cases h2:nd.length=nk.length+1
     ·have hq:((nd.length:Int) == (nk.length:Int)+1)=true:=by rw [h2];simp
      have hq2:(nd.length:Int)=(nk.length:Int)+1:=by omega
      have hq3:((nd.length:Int) != (nk.length:Int)+1)=false:=by rw [bne,hq];rfl
      by_cases h3:nc=[]
      ·have HV2:=hid (show aB ⟨false,nk,nc,nd⟩=bP nd by rw [HV.out];simp [h1,h2,h3]);have hz:((nc.length:Int) == 0)=true:=by rw [h3];rfl
       have hz2:((nc.length:Int) != 0)=false:=by rw [bne,hz];rfl
       have hz3:nc.length=0:=by rw [h3];rfl
       have hd0:0<nd.length:=by omega
       clear h1 h2 h3 HV HRS;go_wp2_with fail;have HG2:=HG1;have HS2:=HS1;have HW2:=HW1;generalize wr=wz at *;clear HBB;go_loopw [5] (fun i w5=>∃ k:Nat,k≤nd.length∧i=.int .i64 k∧bP (nd.take k)=true∧Below wz.heap.size wz w5) (fun i _=>nd.length - (intOf i).toNat)
       case atStart=>exact ⟨0,Nat.zero_le _,rfl,rfl,Below.refl _ _⟩
       case round=>
        obtain ⟨k,hk,rfl,hu,hb⟩:=hrel;have HU:=hid hu;have HB3:=hid hb;have HG3:=hid (ae HG2.out hb);have HS3:=hid (HS2.out.keep hb);have HW3:=hid (HW2.out.trans (hb.mono HW2.out.size));clear hu hb a0 a1 a2 a3 a4;obtain ⟨a0,a1,a2,a3,a4⟩:=aa HG3.out;simp only at a0 a1 a2 a3;by_cases hlt:k<nd.length
        ·obtain ⟨b,off,rfl,hbl,hc⟩:=HS3.out.d.int hlt;have hlt2:(k:Int)<(nd.length:Int):=by omega
         cases hp:cm nd[k]
         ·have HV3:=hid (HV2.out.trans (sU hlt hp));go_wp2_with fail;refine (iU nd[k] wr).mono ?_;rw [hp];rintro e w2 ⟨rfl,rfl⟩;clear hp;go_wp2_with fail;go_ret;exact ⟨by rw [HV3.out];rfl,HW3.out⟩
         ·have HP:=hid hp;go_wp2_with fail;refine (iU nd[k] wr).mono ?_;rw [hp];rintro e w2 ⟨rfl,rfl⟩;clear hp;obtain ⟨wo,hwo⟩:∃ wo:World,wo=wr:=⟨_,rfl⟩;subst hwo;go_wp2_with fail;go_loopw [6] (fun i w5=>∃ m:Nat,m≤k∧i=.int .i64 m∧(∀ j,(h:j<m)→(h2:j<k)→(nd[j]'(by omega))≠nd[k])∧Below wo.heap.size wo w5) (fun i _=>k - (intOf i).toNat)
          case atStart=>exact ⟨0,Nat.zero_le _,rfl,fun j h=>absurd h (Nat.not_lt_zero _),Below.refl _ _⟩
          case round=>
           obtain ⟨m,hm,rfl,hn,hb⟩:=hrel;have HN:=hid hn;have HB4:=hid hb;have HG4:=hid (ae HG3.out hb);have HS4:=hid (HS3.out.keep hb);have HW4:=hid (HW3.out.trans (hb.mono HW3.out.size));clear hn hb a0 a1 a2 a3 a4 hc hbl;obtain ⟨a0,a1,a2,a3,a4⟩:=aa HG4.out;simp only at a0 a1 a2 a3;by_cases hmk:m<k
           ·obtain ⟨b1,off1,he,hbl,hc⟩:=HS4.out.d.int hlt;injection he with he
            injection he with e1 e2
            subst e1 e2;obtain ⟨b2,off2,he,-,hc2⟩:=HS4.out.d.int (show m<nd.length by omega);injection he with he
            injection he with e1 e2
            subst e1 e2;have hm2:(m:Int)<(nd.length:Int):=by omega
            have hm3:(m:Int)<(k:Int):=by omega
            by_cases hq2:(nd[m]'(by omega))=nd[k]
            ·have HV3:=hid (HV2.out.trans (rJ hlt hmk hq2));have hq3:((nd[m]'(by omega)) == nd[k])=true:=by simpa using hq2
             clear hq2 HN;obtain ⟨x,hx⟩:∃ x,x=nd[m]'(by omega):=⟨_,rfl⟩;obtain ⟨y,hy⟩:∃ y,y=nd[k]:=⟨_,rfl⟩;rw [← hx] at hc2 hq3;rw [← hy] at hc hq3;clear hx hy;go_upto_region 25 with fail
             have f1:=aU a3 a4;have f2:=aU hc hbl;have f3:=aU hc2 hbl;refine aJ (by kernel_rfl) (by kernel_rfl) ?_
             repeat (go_big_quiet_step (fail))
             refine wpQuiet_nil ?_;rintro w7 ⟨⟨w8,hb8⟩,rfl⟩;have HB8:=hid hb8;clear hb8;go_wp2_with fail;go_ret;exact ⟨by rw [HV3.out];rfl,HW4.out.trans (HB8.out.mono HW4.out.size)⟩
            ·have HN2:=hid (show ∀ j,(h:j<m+1)→(h2:j<k)→(nd[j]'(by omega))≠nd[k] from fun j h h2=>by
              rcases Nat.lt_succ_iff_lt_or_eq.1 h with h | rfl
              ·exact HN.out j h h2
              ·exact hq2)
             have hq3:((nd[m]'(by omega)) == nd[k])=false:=by simpa using hq2
             clear hq2 HN;obtain ⟨x,hx⟩:∃ x,x=nd[m]'(by omega):=⟨_,rfl⟩;obtain ⟨y,hy⟩:∃ y,y=nd[k]:=⟨_,rfl⟩;rw [← hx] at hc2 hq3;rw [← hy] at hc hq3;clear hx hy;go_upto_region 25 with fail
             have f1:=aU a3 a4;have f2:=aU hc hbl;have f3:=aU hc2 hbl;refine aJ (by kernel_rfl) (by kernel_rfl) ?_
             repeat (go_big_quiet_step (fail))
             refine wpQuiet_nil ?_;rintro w7 ⟨⟨w8,hb8⟩,rfl⟩;have HB8:=hid hb8;clear hb8;go_wp2_with fail;go_roundw
             case rel=>exact ⟨m+1,by omega,by go_num,HN2.out,HB4.out.trans (HB8.out.mono HB4.out.size)⟩
             case measure=>simp [intOf];omega
           ·obtain rfl:m=k:=by omega
            have HU2:=hid (qu hlt HU.out HP.out (fun j h=>HN.out j h h));clear hmk hm;go_wp2_with fail;go_roundw
            case rel=>exact ⟨m+1,by omega,by go_num,HU2.out,HB3.out.trans (HB4.out.mono HB3.out.size)⟩
            case measure=>simp [intOf];omega
        ·obtain rfl:k=nd.length:=by omega
         have HV3:=hid (show aB ⟨false,nk,nc,nd⟩=true by rw [HV2.out,← HU.out,List.take_length]);clear hlt hk;go_wp2_with fail;go_ret;exact ⟨by rw [HV3.out];rfl,HW3.out⟩
      ·have HV2:=hid (show aB ⟨false,nk,nc,nd⟩=false by rw [HV.out];simp [h3]);have hz3:¬ nc.length=0:=by have:=List.length_pos_iff.2 h3;omega
       have hz:((nc.length:Int) == 0)=false:=by simp;omega
       have hz2:((nc.length:Int) != 0)=true:=by rw [bne,hz];rfl
       clear h1 h2 h3;go_wp2_with fail;go_ret;exact ⟨by rw [HV2.out];rfl,HW1.out⟩
     ·have HV2:=hid (show aB ⟨false,nk,nc,nd⟩=false by rw [HV.out];simp [h2]);have hq:((nd.length:Int) == (nk.length:Int)+1)=false:=by simp;omega
      have hq2:¬ (nd.length:Int)=(nk.length:Int)+1:=by omega
      have hq3:((nd.length:Int) != (nk.length:Int)+1)=true:=by rw [bne,hq];rfl
      clear h1 h2;go_wp2_with fail;go_ret;exact ⟨by rw [HV2.out];rfl,HW1.out⟩
   ·have HV:=hid (show aB ⟨true,nk,nc,nd⟩=(decide (nc.length=nk.length) && decide (nd=[]) && nc.all aE) by unfold aB;rw [HRS.out];rfl);by_cases h1:nc.length=nk.length
    ·have hq:((nc.length:Int) == (nk.length:Int))=true:=by rw [h1];simp
     have hq2:(nc.length:Int)=(nk.length:Int):=by omega
     have hq3:((nc.length:Int) != (nk.length:Int))=false:=by rw [bne,hq];rfl
     by_cases h2:nd=[]
     ·have HV2:=hid (show aB ⟨true,nk,nc,nd⟩=nc.all aE by rw [HV.out];simp [h1,h2]);have hz:((nd.length:Int) == 0)=true:=by rw [h2];rfl
      have hz2:((nd.length:Int) != 0)=false:=by rw [bne,hz];rfl
      have HA0:=hid (show (nc.drop 0).all aE=nc.all aE from rfl);clear h1 h2 HV HRS;go_wp2_with fail;have HG2:=HG1;have HS2:=HS1;have HW2:=HW1;generalize wr=wz at *;clear HBB;go_loopw [4] (fun i w5=>∃ k:Nat,k≤nc.length∧i=.int .i64 k∧(nc.drop k).all aE=nc.all aE∧Below wz.heap.size wz w5) (fun i _=>nc.length - (intOf i).toNat)
      case atStart=>exact ⟨0,Nat.zero_le _,rfl,HA0.out,Below.refl _ _⟩
      case round=>
       obtain ⟨k,hk,rfl,hu,hb⟩:=hrel;have HU:=hid hu;have HBB:=hid hb;have HG3:=hid (ae HG2.out hb);have HS3:=hid (HS2.out.keep hb);have HW3:=hid (HW2.out.trans (hb.mono HW2.out.size));clear hu hb a0 a1 a2 a3 a4;obtain ⟨a0,a1,a2,a3,a4⟩:=aa HG3.out;simp only at a0 a1 a2 a3;by_cases hlt:k<nc.length
       ·obtain ⟨b,off,rfl,hbl,-,hc0,hc1,hc2⟩:=HS3.out.c.cell3 hlt;have hlt2:(k:Int)<(nc.length:Int):=by omega
        have HU2:=hid (show nc.all aE=(aE nc[k] && (nc.drop (k+1)).all aE) by rw [← HU.out,List.drop_eq_getElem_cons hlt,List.all_cons]);generalize nc[k]=ce at *;go_wp2_with fail;refine (pK ce wr).mono ?_;rintro e w4 ⟨rfl,hb⟩;have HB4:=hid (HBB.out.trans (hb.mono HBB.out.size));have HW4:=hid (HW3.out.trans (hb.mono HW3.out.size));clear hb;cases hg:aE ce
        ·have HV3:=hid (show aB ⟨true,nk,nc,nd⟩=false by rw [HV2.out,HU2.out,hg];rfl);go_wp2_with fail;go_ret;exact ⟨by rw [HV3.out];rfl,HW4.out⟩
        ·have HU3:=hid (show (nc.drop (k+1)).all aE=nc.all aE by rw [HU2.out,hg,Bool.true_and]);go_wp2_with fail;go_roundw
         case rel=>first | exact ⟨k+1,by omega,by go_num,HU3.out,HB4.out⟩ | ((repeat apply Exists.intro);exact ⟨⟨k+1,by omega,by go_num,HU3.out,HB4.out⟩,by and_intros <;> rfl⟩)
         case measure=>simp [intOf];omega
       ·have HV3:=hid (show aB ⟨true,nk,nc,nd⟩=true by rw [HV2.out,← HU.out,List.drop_of_length_le (by omega)];rfl);obtain rfl:k=nc.length:=by omega
        clear hlt hk;go_wp2_with fail;go_ret;exact ⟨by rw [HV3.out];rfl,HW3.out⟩
     ·have HV2:=hid (show aB ⟨true,nk,nc,nd⟩=false by rw [HV.out];simp [h2]);have hz3:¬ nd.length=0:=by have:=List.length_pos_iff.2 h2;omega
      have hz:((nd.length:Int) == 0)=false:=by simp;omega
      have hz2:((nd.length:Int) != 0)=true:=by rw [bne,hz];rfl
      clear h1 h2;go_wp2_with fail;go_ret;exact ⟨by rw [HV2.out];rfl,HW1.out⟩
    ·have HV2:=hid (show aB ⟨true,nk,nc,nd⟩=false by rw [HV.out];simp [h1]);have hq:((nc.length:Int) == (nk.length:Int))=false:=by simp;omega
     have hq2:¬ (nc.length:Int)=(nk.length:Int):=by omega
     have hq3:((nc.length:Int) != (nk.length:Int))=true:=by rw [bne,hq];rfl
     clear h1;go_wp2_with fail;go_ret;exact ⟨by rw [HV2.out];rfl,HW1.out⟩
theorem pW {c:Ce} (h:aE c=true):∃ s p:Nat,c.size=(s:Int)∧c.page=(p:Int)∧s≤5000∧p<4096∧c.data.length≤40∧(40<s→c.data=[]):=by
 unfold aE at h
 split at h
 ·cases h
 ·rename_i h0
  split at h
  ·rename_i h1
   simp only [Bool.and_eq_true,decide_eq_true_eq] at h;exact ⟨c.size.toNat,0,by omega,h.2,by omega,by omega,by omega,fun h=>by omega⟩
  ·rename_i h1
   simp only [Bool.and_eq_true,decide_eq_true_eq,cm] at h;exact ⟨c.size.toNat,c.page.toNat,by omega,by omega,by omega,by omega,by rw [h.1];decide,fun _=>h.1⟩
theorem n9 (n:Nd) (v:Value) (w:World) (h:NdV w v n) (hb:n.Bd) (hg:aB n=true):Calls Tryz.prog 164 #[v] w fun e w'=>e=.returned (.string (al (ar n)))∧Below w.heap.size w w':=by
 obtain ⟨vk,vc,vd,rfl,hs⟩:=h;obtain ⟨A1,c1,rfl⟩:=Sl.len' hs.k;obtain ⟨A2,c2,rfl⟩:=Sl.len' hs.c;obtain ⟨A3,c3,rfl⟩:=Sl.len' hs.d;have HW1:=hid ((Below.refl _ w).alloc (Nat.le_refl _) (ap n (.slice A1 n.keys.length c1) (.slice A2 n.cells.length c2) (.slice A3 n.kids.length c3)));have HG1:=hid (ag (w0:=w) (g:=w.heap.size) (o:=ap n (.slice A1 n.keys.length c1) (.slice A2 n.cells.length c2) (.slice A3 n.kids.length c3)) rfl);have HS1:=hid (hs.keep HW1.out);have HG:=hid hg;have HE:=hid (kF hg);have hk2:=hb.k;have hc2:=hb.c;have hd2:=hb.d;obtain ⟨nl,nk,nc,nd⟩:=n;simp only at hk2 hc2 hd2 HS1 HG1 HW1 HE;clear hs hb hg;go_enter Tryz.func164,Tryz.ntmps164;go_upto_region 1 with fail
 generalize hw1:w.alloc (.cells #[.bool nl,.slice A1 nk.length c1,.slice A2 nc.length c2,.slice A3 nd.length c3] 110)=w1 at *;have hw2:w.alloc (ap ⟨nl,nk,nc,nd⟩ (.slice A1 nk.length c1) (.slice A2 nc.length c2) (.slice A3 nd.length c3))=w1:=hw1;rw [hw2] at HW1 HG1 HS1;clear hw1 hw2;obtain ⟨a0,a1,a2,a3,a4⟩:=aa HG1.out;simp only at a0 a1 a2 a3;have s1:=aq (aK 2 nk.length);rw [ay] at s1;cases nl
 ·obtain ⟨hr,hk0,hdl,-,-,hpg⟩:=aI HG.out rfl;have HR:=hid (bF hr);have HPG:=hid hpg;simp only at hdl HR HPG;clear hr hk0 hpg;have hd0:0<nd.length:=by omega
  have hd1:(0:Int)<(nd.length:Int):=by omega
  go_wp2_with fail;refine (eT nk.length 2 w1 (by omega) (by omega) (by omega)).mono ?_;rintro e w2 ⟨rfl,hb⟩;have HG2:=hid (ae HG1.out hb);have HW2:=hid (HW1.out.trans (hb.mono HW1.out.size));have HS2:=hid (HS1.out.keep hb);clear hb a0 a1 a2 a3 a4;obtain ⟨a0,a1,a2,a3,a4⟩:=aa HG2.out;simp only at a0 a1 a2 a3;obtain ⟨b,off,rfl,hbl,hc⟩:=HS2.out.d.int hd0;obtain ⟨m0,hm0⟩:∃ m:Nat,nd[0]=(m:Int):=⟨nd[0].toNat,by
   have:=HPG.out _ (List.getElem_mem hd0);simp [cm] at this;omega⟩
  have hm0b:m0<4096:=by have:=HPG.out _ (List.getElem_mem hd0);simp [cm] at this;omega
  have HM0:=hid hm0;rw [hm0] at hc;simp only [Nat.add_zero] at hc;clear hm0;have s2:=aq (aK 4 m0);rw [ay] at s2;go_wp2_with fail;refine (eT m0 4 w2 (by omega) (by omega) (by omega)).mono ?_;rintro e w3 ⟨rfl,hb⟩;clear hc hbl;have HG3:=hid (ae HG2.out hb);have HW3:=hid (HW2.out.trans (hb.mono HW2.out.size));have HS3:=hid (HS2.out.keep hb);clear hb a0 a1 a2 a3 a4;obtain ⟨a0,a1,a2,a3,a4⟩:=aa HG3.out;simp only at a0 a1 a2 a3;have HS0:({ data:=#[2] }:ByteArray) ++ al (aK 2 nk.length) ++ al (aK 4 m0)=al (b9 ⟨false,nk,nc,nd⟩ 0):=by rw [bU,bU];show al (([2] ++ aK 2 nk.length) ++ aK 4 m0)=_;simp [b9,dR,List.getElem?_eq_getElem hd0,HM0.out]
  go_upto_region 7 with fail
  try simp only [HS0]
  clear s1 s2 a0 a1 a2 a3 a4;have HX0:=hid HS0;clear HS0;go_wp2_with fail;go_loopw [3,4] (fun sv iv wr=>∃ k:Nat,k≤nk.length∧iv=.int .i64 k∧sv=.string (al (b9 ⟨false,nk,nc,nd⟩ k))∧Below w3.heap.size w3 wr) (fun _ iv _=>nk.length - (intOf iv).toNat)
  case atStart=>exact ⟨0,Nat.zero_le _,rfl,by first | rfl | rw [HX0.out],Below.refl _ _⟩
  case round=>
   obtain ⟨k,hk,rfl,rfl,hb⟩:=hrel;have HBR:=hid hb;have HG4:=hid (ae HG3.out hb);have HW4:=hid (HW3.out.trans (hb.mono HW3.out.size));have HS4:=hid (HS3.out.keep hb);clear hb;obtain ⟨a0,a1,a2,a3,a4⟩:=aa HG4.out;simp only at a0 a1 a2 a3;by_cases hlt:k<nk.length
   ·obtain ⟨b1,off1,rfl,hbl1,-,hc⟩:=HS4.out.k.key hlt;have hlt2:(k:Int)<(nk.length:Int):=by omega
    obtain ⟨m,hm⟩:∃ m:Nat,nd[k+1]=(m:Int):=⟨nd[k+1].toNat,by
     have:=HPG.out _ (List.getElem_mem (show k+1<nd.length by omega));simp [cm] at this;omega⟩
    have hmb:m<4096:=by have:=HPG.out _ (List.getElem_mem (show k+1<nd.length by omega));simp [cm] at this;omega
    have h64:nk[k].length≤64:=HR.out _ (List.getElem_mem hlt);have hsz:(al nk[k]).size=nk[k].length:=aq _;have HNX:=hid (show b9 ⟨false,nk,nc,nd⟩ (k+1)=b9 ⟨false,nk,nc,nd⟩ k ++ bh (al nk[k]).size ++ nk[k] ++ aK 4 m by
     rw [kE (n:=⟨false,nk,nc,nd⟩) rfl hlt (show k+1<nd.length by omega),hsz];simp only [hm,Int.toNat_natCast])
    have hlen:=gJ HG.out k;have HM:=hid hm;have hszb:(al nk[k]).size≤64:=by omega
    clear hsz hm;have s1:=aq (b9 ⟨false,nk,nc,nd⟩ k);have HBP:=hid (show b9 ⟨false,nk,nc,nd⟩ k=b9 ⟨false,nk,nc,nd⟩ k from rfl);generalize b9 ⟨false,nk,nc,nd⟩ k=acc at *;generalize nk[k]=key at *;have s2:=aq (bh (al key).size);have s3:(bh (al key).size).length≤2:=by rw [cJ];split <;> omega
    have g0:=kS (n:=(al key).size) (by omega);have HF1:=hid (fun (y:Up wr)=>jL (al key).size y.w (by omega));go_upto_region 10 with fail
    have f1:=aU a1 a4;have fc:=aU hc hbl1;refine aJ (by kernel_rfl) (by kernel_rfl) ?_
    repeat (go_big_quiet_step (first
     | (go_at_call 199;(with_reducible exact eg (HF1.out _)))))
    refine wpQuiet_nil ?_;rintro w5 ⟨⟨w6,hb⟩,rfl⟩;have HB5:=hid (HBR.out.trans (hb.mono HBR.out.size));have HG5:=hid (ae HG4.out hb);have HW5:=hid (HW4.out.trans (hb.mono HW4.out.size));have HS5:=hid (HS4.out.keep hb);clear hb a0 a1 a2 a3 a4;obtain ⟨a0,a1,a2,a3,a4⟩:=aa HG5.out;simp only at a0 a1 a2 a3;clear f1 fc hc hbl1 g0 HF1;have HA1:=hid (show al acc ++ al (bh (al key).size) ++ al key=al (acc ++ bh (al key).size ++ key) by rw [bU,bU];rfl);have s4:=aq (acc ++ bh (al key).size ++ key);have s5:(acc ++ bh (al key).size ++ key).length≤1000000:=by simp only [List.length_append];have:=aq key;omega
    rw [HA1.out];clear s1 s2 s3;generalize hacc:acc ++ bh (al key).size ++ key=acc2 at *;obtain ⟨b2,off2,he,hbl2,hc2'⟩:=HS5.out.d.int (show k+1<nd.length by omega);injection he with he
    injection he with e1 e2
    subst e1 e2;rw [HM.out] at hc2';have hk3:(k:Int)+1<(nd.length:Int):=by omega
    have s6:=aq (aK 4 m);rw [ay] at s6;have HA2:=hid (show al acc2 ++ al (aK 4 m)=al (b9 ⟨false,nk,nc,nd⟩ (k+1)) by rw [bU,HNX.out];rfl);clear hacc;go_wp2_with fail;refine (eT m 4 w5 (by omega) (by omega) (by omega)).mono ?_;rintro e w6 ⟨rfl,hb⟩;have HB6:=hid (HB5.out.trans (hb.mono HB5.out.size));clear hb hc2' hbl2;go_wp2_with fail;go_roundw
    case rel=>exact ⟨k+1,by omega,by go_num,by rw [HA2.out],HB6.out⟩
    case measure=>simp [intOf];omega
   ·obtain rfl:k=nk.length:=by omega
    have HE2:=hid (show b9 ⟨false,nk,nc,nd⟩ nk.length=ar ⟨false,nk,nc,nd⟩ from HE.out);rw [HE2.out];clear hlt hk;go_wp2_with fail;go_ret;exact ⟨rfl,HW4.out⟩
 ·obtain ⟨hr,hcl,-,hgc⟩:=bS HG.out rfl;have HR:=hid (bF hr);have HGC:=hid hgc;simp only at hcl HR HGC;clear hr hgc;have hcl1:nc.length≤nk.length:=by omega
  have hcl2:nk.length≤nc.length:=by omega
  clear hcl;go_wp2_with fail;refine (eT nk.length 2 w1 (by omega) (by omega) (by omega)).mono ?_;rintro e w3 ⟨rfl,hb⟩;have HG3:=hid (ae HG1.out hb);have HW3:=hid (HW1.out.trans (hb.mono HW1.out.size));have HS3:=hid (HS1.out.keep hb);clear hb a0 a1 a2 a3 a4;obtain ⟨a0,a1,a2,a3,a4⟩:=aa HG3.out;simp only at a0 a1 a2 a3;have HS0:({ data:=#[1] }:ByteArray) ++ al (aK 2 nk.length)=al (b9 ⟨true,nk,nc,nd⟩ 0):=by rw [bU];show al ([1] ++ aK 2 nk.length)=_;simp [b9,bC]
  go_upto_region 7 with fail
  try simp only [HS0]
  clear s1 a0 a1 a2 a3 a4;have HX0:=hid HS0;clear HS0;go_wp2_with fail;go_loopw [3,4,5] (fun sv iv _ wr=>∃ k:Nat,k≤nk.length∧iv=.int .i64 k∧sv=.string (al (b9 ⟨true,nk,nc,nd⟩ k))∧Below w3.heap.size w3 wr) (fun _ iv _ _=>nk.length - (intOf iv).toNat)
  case atStart=>exact ⟨0,Nat.zero_le _,rfl,by first | rfl | rw [HX0.out],Below.refl _ _⟩
  case round=>
   obtain ⟨k,hk,rfl,rfl,hb⟩:=hrel;have HBR:=hid hb;have HG4:=hid (ae HG3.out hb);have HW4:=hid (HW3.out.trans (hb.mono HW3.out.size));have HS4:=hid (HS3.out.keep hb);clear hb;obtain ⟨a0,a1,a2,a3,a4⟩:=aa HG4.out;simp only at a0 a1 a2 a3;by_cases hlt:k<nk.length
   ·obtain ⟨b1,off1,rfl,hbl1,-,hc⟩:=HS4.out.k.key hlt;have hlt2:(k:Int)<(nk.length:Int):=by omega
    have h64:nk[k].length≤64:=HR.out _ (List.getElem_mem hlt);have hsz:(al nk[k]).size=nk[k].length:=aq _;have hck:k<nc.length:=by omega
    have HNX:=hid (show b9 ⟨true,nk,nc,nd⟩ (k+1)=b9 ⟨true,nk,nc,nd⟩ k ++ bh (al nk[k]).size ++ nk[k] ++ fA nc[k] by
     rw [lN (n:=⟨true,nk,nc,nd⟩) rfl hlt hck,hsz])
    have hlen:=gJ HG.out k;have hszb:(al nk[k]).size≤64:=by omega
    clear hsz;have s1:=aq (b9 ⟨true,nk,nc,nd⟩ k);generalize b9 ⟨true,nk,nc,nd⟩ k=acc at *;generalize nk[k]=key at *;have s2:=aq (bh (al key).size);have s3:(bh (al key).size).length≤2:=by rw [cJ];split <;> omega
    have g0:=kS (n:=(al key).size) (by omega);have HF1:=hid (fun (y:Up wr)=>jL (al key).size y.w (by omega));go_upto_region 10 with fail
    have f1:=aU a1 a4;have fc:=aU hc hbl1;refine aJ (by kernel_rfl) (by kernel_rfl) ?_
    repeat (go_big_quiet_step (first
     | (go_at_call 199;(with_reducible exact eg (HF1.out _)))))
    refine wpQuiet_nil ?_;rintro w5 ⟨⟨w6,hb⟩,rfl⟩;have HB5:=hid (HBR.out.trans (hb.mono HBR.out.size));have HG5:=hid (ae HG4.out hb);have HW5:=hid (HW4.out.trans (hb.mono HW4.out.size));have HS5:=hid (HS4.out.keep hb);clear hb a0 a1 a2 a3 a4;obtain ⟨a0,a1,a2,a3,a4⟩:=aa HG5.out;simp only at a0 a1 a2 a3;clear f1 fc hc hbl1 g0 HF1;have HA1:=hid (show al acc ++ al (bh (al key).size) ++ al key=al (acc ++ bh (al key).size ++ key) by rw [bU,bU];rfl);have s4:=aq (acc ++ bh (al key).size ++ key);have s5:(acc ++ bh (al key).size ++ key).length≤1000000:=by simp only [List.length_append];have:=aq key;omega
    rw [HA1.out];clear s1 s2 s3;generalize acc ++ bh (al key).size ++ key=acc2 at *;obtain ⟨b2,off2,he,hbl2,-,e0,e1,e2⟩:=HS5.out.c.cell3 hck;subst he;obtain ⟨sn,pn,q1,q2,q3,q4,q5,q6⟩:=pW (HGC.out _ (List.getElem_mem hck));have HCB:=hid (show fA nc[k]=bh sn ++ if 40<sn then aK 4 pn else nc[k].data by
     unfold fA;rw [q1,q2,Int.toNat_natCast,Int.toNat_natCast];by_cases h:40<sn
     ·rw [if_pos h,if_pos (by omega)]
     ·rw [if_neg h,if_neg (by omega)])
    have HQ6:=hid q6;rw [q1] at e0;rw [q2] at e2;have hk3:(k:Int)<(nc.length:Int):=by omega
    clear q1 q2 q6;generalize hda:nc[k].data=da at *;clear hda;have HX6:=hid (ag (w0:=w5) (g:=w5.heap.size) (o:=cF ⟨sn,da,pn⟩) rfl);have HN6:=hid ((Below.refl _ w5).alloc (Nat.le_refl _) (cF ⟨sn,da,pn⟩));go_upto_region 14 with fail
    generalize hw1:w5.alloc (.cells #[.int .i64 sn,.string (al da),.int .i64 pn] 119)=w6 at *;have hw2:w5.alloc (cF ⟨sn,da,pn⟩)=w6:=hw1;rw [hw2] at HX6 HN6;clear hw1 hw2 e0 e1 e2 hbl2 a0 a1 a2 a3 a4;have c0:w6.cell? ⟨w5.heap.size,0,none⟩=some (.int .i64 sn):=ac HX6.out 0;have c1':w6.cell? ⟨w5.heap.size,1,none⟩=some (.string (al da)):=ac HX6.out 1;have c2':w6.cell? ⟨w5.heap.size,2,none⟩=some (.int .i64 pn):=ac HX6.out 2;have c3':=aj HX6.out;have HB6:=hid (HB5.out.trans (HN6.out.mono HB5.out.size));generalize w5.heap.size=gc at *;have s6:=aq (bh sn);have s7:(bh sn).length≤2:=by rw [cJ];split <;> omega
    have s8:=aq da;have g0:=kS (n:=sn) (by omega);have HF1:=hid (fun (y:Up w6)=>jL sn y.w (by omega));have f1:=aU c0 c3';have fc:=aU c1' c3';refine aJ (by kernel_rfl) (by kernel_rfl) ?_
    repeat (go_big_quiet_step (first
     | (go_at_call 199;(with_reducible exact eg (HF1.out _)))))
    refine wpQuiet_nil ?_;rintro w7 ⟨⟨w8,hb⟩,rfl⟩;have HB7:=hid (HB6.out.trans (hb.mono HB6.out.size));have HX7:=hid (ae HX6.out hb);clear hb c0 c1' c2' c3' f1 fc g0 HF1;have c0:w7.cell? ⟨gc,0,none⟩=some (.int .i64 sn):=ac HX7.out 0;have c2':w7.cell? ⟨gc,2,none⟩=some (.int .i64 pn):=ac HX7.out 2;have c3':=aj HX7.out;have HA3:=hid (show al acc2 ++ al (bh sn) ++ al da=al (acc2 ++ bh sn ++ da) by rw [bU,bU];rfl);rw [HA3.out];by_cases h40:40<sn
    ·have HD0:=HQ6.out h40;subst HD0;have h41:(40:Int)<(sn:Int):=by omega
     have s9:=aq (acc2 ++ bh sn ++ []);have s10:(acc2 ++ bh sn ++ []).length≤1000010:=by simp only [List.length_append,List.length_nil];omega
     have s11:=aq (aK 4 pn);rw [ay] at s11;have HA2:=hid (show al (acc2 ++ bh sn ++ []) ++ al (aK 4 pn)=al (b9 ⟨true,nk,nc,nd⟩ (k+1)) by rw [bU,HNX.out,HCB.out,if_pos h40];simp [aW]);generalize acc2 ++ bh sn ++ []=acc3 at *;go_wp2_with fail;refine (eT pn 4 w7 (by omega) (by omega) (by omega)).mono ?_;rintro e w8 ⟨rfl,hb⟩;have HB8:=hid (HB7.out.trans (hb.mono HB7.out.size));clear hb c0 c2' c3';go_wp2_with fail;go_roundw
     case rel=>exact ⟨k+1,by omega,by go_num,by rw [HA2.out],HB8.out⟩
     case measure=>simp [intOf];omega
    ·have h41:¬ (40:Int)<(sn:Int):=by omega
     have h42:(sn:Int)≤40:=by omega
     have HA2:=hid (show al (acc2 ++ bh sn ++ da)=al (b9 ⟨true,nk,nc,nd⟩ (k+1)) by rw [HNX.out,HCB.out,if_neg h40];simp);rw [HA2.out];go_wp2_with fail;go_roundw
     case rel=>exact ⟨k+1,by omega,by go_num,rfl,HB7.out⟩
     case measure=>simp [intOf];omega
   ·obtain rfl:k=nk.length:=by omega
    have HE2:=hid (show b9 ⟨true,nk,nc,nd⟩ nk.length=ar ⟨true,nk,nc,nd⟩ from HE.out);rw [HE2.out];clear hlt hk;go_wp2_with fail;go_ret;exact ⟨rfl,HW4.out⟩
theorem gy (n:Nd) (v:Value) (w:World) (h:NdV w v n) (hb:n.Bd):Calls Tryz.prog 116 #[v] w fun e w'=>e=.returned (.tuple #[.string (al (dD n)),.int .i64 (db n)])∧Below w.heap.size w w':=by
 obtain ⟨vk,vc,vd,rfl,hs⟩:=h;have HW1:=hid ((Below.refl _ w).alloc (Nat.le_refl _) (ap n vk vc vd));have HG1:=hid (ag (w0:=w) (g:=w.heap.size) (o:=ap n vk vc vd) rfl);have HS1:=hid (hs.keep HW1.out);have HB:=hid hb;clear hs hb;go_enter Tryz.func116,Tryz.ntmps116;go_upto_region 1 with fail
 generalize hw1:w.alloc (.cells #[.bool n.leaf,vk,vc,vd] 110)=w1 at *;have hw2:w.alloc (ap n vk vc vd)=w1:=hw1;rw [hw2] at HW1 HG1 HS1;clear hw1 hw2;obtain ⟨a0,a1,a2,a3,a4⟩:=aa HG1.out;go_wp2_with fail;refine (lm n _ w1 ⟨vk,vc,vd,rfl,HS1.out⟩ HB.out).mono ?_;rintro e w2 ⟨rfl,hb⟩;have HG2:=hid (ae HG1.out hb);have HW2:=hid (HW1.out.trans (hb.mono HW1.out.size));have HS2:=hid (HS1.out.keep hb);clear hb a0 a1 a2 a3 a4;obtain ⟨a0,a1,a2,a3,a4⟩:=aa HG2.out;cases hg:aB n
 ·have HV:=hid (show dD n=[]∧db n=1 by unfold dD db;rw [hg];simp);go_wp2_with fail;go_ret2;exact ⟨by rw [HV.out.1,HV.out.2];rfl,HW2.out⟩
 ·go_wp2_with fail;refine (n9 n _ w2 ⟨vk,vc,vd,rfl,HS2.out⟩ HB.out hg).mono ?_;rintro e w3 ⟨rfl,hb⟩;have HW3:=hid (HW2.out.trans (hb.mono HW2.out.size));clear hb a0 a1 a2 a3 a4;have s1:=aq (ar n);by_cases hl:232<(ar n).length
  ·have HV:=hid (show dD n=[]∧db n=47 by unfold dD db;rw [hg];simp [hl]);have s2:(232:Int)<((al (ar n)).size:Int):=by omega
   clear s1;go_wp2_with fail;go_ret2;exact ⟨by rw [HV.out.1,HV.out.2];rfl,HW3.out⟩
  ·have HV:=hid (show dD n=aD (ar n)∧db n=0 by unfold dD db;rw [hg];simp [hl]);have s2:((al (ar n)).size:Int)≤232:=by omega
   clear s1;go_wp2_with fail;refine (gD (al (ar n)) w3).mono ?_;rw [aW];rintro e w4 ⟨rfl,hb⟩;have HW4:=hid (HW3.out.trans (hb.mono HW3.out.size));clear hb;go_wp2_with fail;go_ret2;exact ⟨by rw [HV.out.1,HV.out.2];rfl,HW4.out⟩
end Go.Proofs.YtknioodagnjchaaGreatDoor
