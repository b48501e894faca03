/- cahierref08: page, cell, Good. The reference's decoder of nodes reads by places; it is the program's; plain. cahierref16.Map: place. cahierref16.Map: what Put makes of a list of rising keys is putP. cahierref16.Map.Put. cahierref16.Same. -/
import Derived.Test.YtknioodagnjchaaGreatDoorBGf
import Derived.Test.YtknioodagnjchaaGreatDoorBGg
import Derived.Test.YtknioodagnjchaaGreatDoorBGn
import Derived.Test.YtknioodagnjchaaGreatDoorBGi
set_option maxRecDepth 100000
set_option maxHeartbeats 4000000
namespace Go.Proofs.YtknioodagnjchaaGreatDoor
open Go renaming wpQuiet_nil->Bt
open Go.Lib renaming hid->Z
open Go.RowKit
theorem kS (n:Int) (w:World):Calls Tryz.prog 166 #[.int .i64 n] w fun e w'=>e=.returned (.bool (cI n))/\w=w':=by
 go_enter Tryz.func166,Tryz.ntmps166;by_cases h1:1<=n
 ·have HV:=Z (show cI n=decide (n<=4095) by unfold cI;rw [decide_eq_true h1];simp;omega);go_wp2_with fail;go_ret;exact ⟨by rw [HV.out];rfl,rfl⟩
 ·have HV:=Z (show cI n=false by unfold cI;rw [decide_eq_false h1];rfl);have h2:n<1:=by omega
  go_wp2_with fail;go_ret;exact ⟨by rw [HV.out];rfl,rfl⟩
theorem un (c:Ce) (w:World):Calls Tryz.prog 165 #[.agg #[.int .i64 c.size,.string (ap c.data),.int .i64 c.page]] w fun e w'=>e=.returned (.bool (aI c))/\Below w.heap.size w w':=by
 obtain ⟨sz,da,pg⟩:=c;have HB:=Z ((Below.refl _ w).alloc (Nat.le_refl _) (dj ⟨sz,da,pg⟩));have HG:=Z (ag (w0:=w) (g:=w.heap.size) (o:=dj ⟨sz,da,pg⟩) rfl);have hsz2:((ap da).size:Int)=(da.length:Int):=by rw [au]
 go_enter Tryz.func165,Tryz.ntmps165;go_upto_region 1 with fail
 generalize hw1:w.alloc (.cells #[.int .i64 sz,.string (ap da),.int .i64 pg] 119)=w1 at *;have hw2:w.alloc (dj ⟨sz,da,pg⟩)=w1:=hw1;rw [hw2] at HB HG;clear hw1 hw2;have a0:w1.cell? ⟨w.heap.size,0,none⟩=some (.int .i64 sz):=ae HG.out 0;have a1:w1.cell? ⟨w.heap.size,1,none⟩=some (.string (ap da)):=ae HG.out 1;have a2:w1.cell? ⟨w.heap.size,2,none⟩=some (.int .i64 pg):=ae HG.out 2;have a3:=aj HG.out;by_cases h1:sz<0
 ·have HV:=Z (show aI ⟨sz,da,pg⟩=false by simp [aI,h1]);go_wp2_with fail;go_ret;exact ⟨by rw [HV.out];rfl,HB.out⟩
 ·have h2:(0:Int)<=sz:=by omega
  by_cases h3:5000<sz
  ·have HV:=Z (show aI ⟨sz,da,pg⟩=false by simp [aI,h3]);go_wp2_with fail;go_ret;exact ⟨by rw [HV.out];rfl,HB.out⟩
  ·have h4:sz<=5000:=by omega
   by_cases h5:sz<=40
   ·by_cases h6:(da.length:Int)=sz
    ·have h7:(((ap da).size:Int) == sz)=true:=by rw [hsz2,h6];simp
     have HV:=Z (show aI ⟨sz,da,pg⟩=(pg == 0) by
      unfold aI;rw [if_neg (by simp only;omega),if_pos h5];simp [h6];rfl)
     clear hsz2 h6;go_wp2_with fail;go_ret;exact ⟨by rw [HV.out];rfl,HB.out⟩
    ·have h7:(((ap da).size:Int) == sz)=false:=by rw [hsz2];simpa using h6
     have HV:=Z (show aI ⟨sz,da,pg⟩=false by
      unfold aI;rw [if_neg (by simp only;omega),if_pos h5];simp [h6])
     clear hsz2 h6;go_wp2_with fail;go_ret;exact ⟨by rw [HV.out];rfl,HB.out⟩
   ·have h5b:(40:Int)<sz:=by omega
    by_cases h6:da=[]
    ·subst h6;have HV:=Z (show aI ⟨sz,[],pg⟩=cI pg by
      unfold aI;rw [if_neg (by simp only;omega),if_neg (by simp only;omega)];simp)
     have h8:(ap ([]:List UInt8)).toList.isEmpty=true:=by rw [ay];rfl
     clear hsz2;go_wp2_with fail;refine (kS pg w1).mono ?_;rintro e w2 ⟨rfl,rfl⟩;go_wp2_with fail;go_ret;exact ⟨by rw [HV.out];rfl,HB.out⟩
    ·have h8:(ap da).toList.isEmpty=false:=by rw [ay];simpa using h6
     have HV:=Z (show aI ⟨sz,da,pg⟩=false by
      unfold aI;rw [if_neg (by simp only;omega),if_neg (by simp only;omega)];simp [h6])
     clear hsz2 h6;go_wp2_with fail;go_ret;exact ⟨by rw [HV.out];rfl,HB.out⟩
theorem Sl.int {w:World} {A:Option Addr} {n c k:Nat} {xs:List Int} (h:Sl iC 1 w (.slice A n c) xs) (hk:k<xs.length):∃ b off,A=some ⟨b,off,none⟩/\b<w.heap.size/\w.cell? ⟨b,off+k,none⟩=some (.int .i64 xs[k]):=by
 obtain ⟨b,off,c',he,hbl,hsl⟩:=h.zQ hk;injection he with e1 e2 e3
 exact ⟨b,off,e1,hbl,by simpa [iC] using hsl 0 _ rfl⟩
theorem yu {l:List Int} {i:Nat} (hi:i<l.length) (h:cI l[i]=false):cz l=false:=by
 unfold cz;have:l.all cI=false:=by rw [List.all_eq_false];exact ⟨l[i],List.getElem_mem hi,by rw [h];simp⟩
 rw [this,Bool.and_false]
theorem xq {l:List Int} {i k:Nat} (hi:i<l.length) (hk:k<i) (h:(l[k]'(by omega))=l[i]):cz l=false:=by
 unfold cz;have:¬ l.Nodup:=fun hn=>List.pairwise_iff_getElem.1 hn k i (by omega) hi hk h
 rw [decide_eq_false this];rfl
theorem vy {l:List Int} {i:Nat} (hi:i<l.length) (h:cz (l.take i)=true) (hp:cI l[i]=true) (hn:∀ k,(h:k<i)->(l[k]'(by omega))≠l[i]):cz (l.take (i+1))=true:=by unfold cz at *;rw [Bool.and_eq_true,decide_eq_true_eq] at *;rw [List.take_succ_eq_append_getElem hi,List.nodup_append,List.all_append,h.2];refine ⟨⟨h.1,by simp,fun a ha b hb=>?_⟩,by simp [hp]⟩;rw [List.mem_singleton] at hb;subst hb;obtain ⟨k,hk,rfl⟩:=List.getElem_of_mem ha;rw [List.getElem_take];exact hn k (by rw [List.length_take] at hk;omega)
theorem uk (n:Nd) (v:Value) (w:World) (h:NdV w v n) (hb:n.Bd):Calls Tryz.prog 117 #[v] w fun e w'=>e=.returned (.bool (aD n))/\Below w.heap.size w w':=by
 obtain ⟨vk,vc,vd,rfl,hs⟩:=h;obtain ⟨A1,c1,rfl⟩:=Sl.zM hs.k;obtain ⟨A2,c2,rfl⟩:=Sl.zM hs.c;obtain ⟨A3,c3,rfl⟩:=Sl.zM hs.d;have HW0:=Z ((Below.refl _ w).alloc (Nat.le_refl _) (ar n (.slice A1 n.keys.length c1) (.slice A2 n.cells.length c2) (.slice A3 n.kids.length c3)));have HG0:=Z (ag (w0:=w) (g:=w.heap.size) (o:=ar n (.slice A1 n.keys.length c1) (.slice A2 n.cells.length c2) (.slice A3 n.kids.length c3)) rfl);have HS0:=Z (hs.keep HW0.out);obtain ⟨nl,nk,nc,nd⟩:=n;have HB:=Z hb;have hk2:=hb.k;have hc2:=hb.c;have hd2:=hb.d;simp only at hk2 hc2 hd2 HS0 HG0 HW0;have HR0:=Z (show gq (cW nk 0) (nk.drop 0)=aH nk from kK nk);clear hs hb;go_enter Tryz.func117,Tryz.ntmps117;go_upto_region 1 with fail
 generalize hw1:w.alloc (.cells #[.bool nl,.slice A1 nk.length c1,.slice A2 nc.length c2,.slice A3 nd.length c3] 110)=w1 at *;have hw2:w.alloc (ar ⟨nl,nk,nc,nd⟩ (.slice A1 nk.length c1) (.slice A2 nc.length c2) (.slice A3 nd.length c3))=w1:=hw1;rw [hw2] at HW0 HG0 HS0;clear hw1 hw2;obtain ⟨a0,a1,a2,a3,a4⟩:=aa HG0.out;simp only at a0 a1 a2 a3;go_wp2_with fail;go_loopw [3] (fun i wr=>∃ k:Nat,k<=nk.length/\i=.int .i64 k/\gq (cW nk k) (nk.drop k)=aH nk/\Below w1.heap.size w1 wr) (fun i _=>nk.length - (intOf i).toNat)
 case atStart=>exact ⟨0,Nat.zero_le _,rfl,HR0.out,Below.refl _ _⟩
 case round=>
  obtain ⟨k,hk,rfl,hr,hb⟩:=hrel;have HR:=Z hr;have HBB:=Z hb;have HG1:=Z (af HG0.out hb);have HS1:=Z (HS0.out.keep hb);have HW1:=Z (HW0.out.trans (hb.mono (by have:=HW0.out.size;omega)));clear hr hb a0 a1 a2 a3 a4;obtain ⟨a0,a1,a2,a3,a4⟩:=aa HG1.out;simp only at a0 a1 a2 a3;by_cases hlt:k<nk.length
  ·obtain ⟨b,off,rfl,hbl,_,hc⟩:=HS1.out.k.key hlt;have hsz:(ap nk[k]).size=nk[k].length:=au _;have HS:=Z (kJ hlt);have hkl:nk[k].length<=100000:=HB.out.kl _ (List.getElem_mem _);have hlt2:(k:Int)<(nk.length:Int):=by omega
   by_cases h64:64<nk[k].length
   ·have h64b:(64:Int)<((ap nk[k]).size:Int):=by rw [hsz];omega
    have HV:=Z (show aD ⟨nl,nk,nc,nd⟩=false by
     have:aH nk=false:=by rw [<- HR.out,HS.out,decide_eq_false (by omega)];rfl
     unfold aD;simp only;rw [this];rfl)
    clear hsz;generalize ap nk[k]=x at *;go_upto_region 4 with fail
    have f1:=bj a1 a4;have f2:=bj hc hbl;refine aM (by kernel_rfl) (by kernel_rfl) ?_
    repeat (go_big_quiet_step (fail))
    refine Bt ?_;rintro w7 ⟨⟨w8,hb8⟩,rfl⟩;have HB8:=Z hb8;clear hb8;go_wp2_with fail;go_ret;exact ⟨by rw [HV.out];rfl,HW1.out.trans (HB8.out.mono HW1.out.size)⟩
   ·have h64b:((ap nk[k]).size:Int)<=64:=by rw [hsz];omega
    have h64d:decide ((64:Int)<((ap nk[k]).size:Int))=false:=decide_eq_false (by omega);have h64c:decide (nk[k].length<=64)=true:=by simp;omega
    rcases Nat.eq_zero_or_pos k with h0 | h0
    ·have HV:=Z (show gq (cW nk (k+1)) (nk.drop (k+1))=aH nk by
      rw [<- HR.out,HS.out,h64c];simp [cW,h0])
     clear hsz h64c;subst h0;simp only [Nat.add_zero] at hc;have hz0:decide ((0:Int)<((0:Nat):Int))=false:=rfl;generalize ap nk[0]=x at *;go_upto_region 4 with fail
     have f1:=bj a1 a4;have f2:=bj hc hbl;refine aM (by kernel_rfl) (by kernel_rfl) ?_
     repeat (go_big_quiet_step (fail))
     refine Bt ?_;rintro w7 ⟨⟨w8,hb8⟩,rfl⟩;have HB8:=Z hb8;clear hb8;go_wp2_with fail;go_roundw
     case rel=>exact ⟨0+1,by omega,by go_num,HV.out,HBB.out.trans (HB8.out.mono HBB.out.size)⟩
     case measure=>simp [intOf];omega
    ·obtain ⟨m,rfl⟩:∃ m,k=m+1:=⟨k - 1,by omega⟩;obtain ⟨b',off',he,_,_,hc'⟩:=HS1.out.k.key (show m<nk.length by omega);injection he with he
     injection he with e1 e2
     subst e1 e2;have hcm:Op.bytesLess (ap nk[m]).toList (ap nk[m+1]).toList=bM nk[m] nk[m+1]:=by rw [ay,ay];rfl
     have HS2:=Z (show aH nk=(bM nk[m] nk[m+1] && gq (cW nk (m+1+1)) (nk.drop (m+1+1))) by
      rw [<- HR.out,HS.out,h64c];simp [cW,show m<nk.length by omega])
     have hi3:IntKind.i64.wrap (((m+1:Nat):Int) - 1)=(m:Int):=by rw [IntWalk.i64_in _ (by omega)];omega
     have hi4:(0:Int)<((m+1:Nat):Int):=by omega
     have hi6:decide ((0:Int)<((m+1:Nat):Int))=true:=decide_eq_true hi4;have hi5:(m:Int)<(nk.length:Int):=by omega
     clear hsz h64c;cases hcc:bM nk[m] nk[m+1]
     ·have HV:=Z (show aD ⟨nl,nk,nc,nd⟩=false by
       have:aH nk=false:=by rw [HS2.out,hcc];rfl
       unfold aD;simp only;rw [this];rfl)
      rw [hcc] at hcm;clear hcc HS2;generalize ap nk[m+1]=x at *;generalize ap nk[m]=y at *;go_upto_region 4 with fail
      have f1:=bj a1 a4;have f2:=bj hc hbl;have f3:=bj hc' hbl;refine aM (by kernel_rfl) (by kernel_rfl) ?_
      repeat (go_big_quiet_step (fail))
      refine Bt ?_;rintro w7 ⟨⟨w8,hb8⟩,rfl⟩;have HB8:=Z hb8;clear hb8;go_wp2_with fail;go_ret;exact ⟨by rw [HV.out];rfl,HW1.out.trans (HB8.out.mono HW1.out.size)⟩
     ·have HV:=Z (show gq (cW nk (m+1+1)) (nk.drop (m+1+1))=aH nk by rw [HS2.out,hcc];simp);rw [hcc] at hcm;clear hcc HS2;generalize ap nk[m+1]=x at *;generalize ap nk[m]=y at *;go_upto_region 4 with fail
      have f1:=bj a1 a4;have f2:=bj hc hbl;have f3:=bj hc' hbl;refine aM (by kernel_rfl) (by kernel_rfl) ?_
      repeat (go_big_quiet_step (fail))
      refine Bt ?_;rintro w7 ⟨⟨w8,hb8⟩,rfl⟩;have HB8:=Z hb8;clear hb8;go_wp2_with fail;go_roundw
      case rel=>exact ⟨m+1+1,by omega,by go_num,HV.out,HBB.out.trans (HB8.out.mono HBB.out.size)⟩
      case measure=>simp [intOf];omega
  ·have HRS:=Z (show aH nk=true by
    rw [<- HR.out,List.drop_of_length_le (by omega)];cases cW nk k <;> rfl)
   obtain rfl:k=nk.length:=by omega
   clear hlt hk HR;cases nl
   ·have HV:=Z (show aD ⟨false,nk,nc,nd⟩=(decide (nk≠[]) && decide (nd.length=nk.length+1) && decide (nc=[]) && cz nd) by unfold aD;rw [HRS.out];rfl);by_cases h1:nk=[]
    ·have HV2:=Z (show aD ⟨false,nk,nc,nd⟩=false by rw [HV.out];simp [h1]);have hl:(nk.length:Int)<1:=by rw [h1];simp
     have hl3:nk.length=0:=by rw [h1];rfl
     clear h1;go_wp2_with fail;go_ret;exact ⟨by rw [HV2.out];rfl,HW1.out⟩
    ·have hl:¬ ((nk.length:Int)<1):=by have:=List.length_pos_iff.2 h1;omega
     have hl2:(1:Int)<=(nk.length:Int):=by omega
     have hl3:¬ nk.length=0:=by omega
     have hl4:0<nk.length:=by omega
     by_cases h2:nd.length=nk.length+1
     ·have hq:((nd.length:Int) == (nk.length:Int)+1)=true:=by rw [h2];simp
      have hq2:(nd.length:Int)=(nk.length:Int)+1:=by omega
      have hq3:((nd.length:Int) != (nk.length:Int)+1)=false:=by rw [bne,hq];rfl
      by_cases h3:nc=[]
      ·have HV2:=Z (show aD ⟨false,nk,nc,nd⟩=cz nd by rw [HV.out];simp [h1,h2,h3]);have hz:((nc.length:Int) == 0)=true:=by rw [h3];rfl
       have hz2:((nc.length:Int) != 0)=false:=by rw [bne,hz];rfl
       have hz3:nc.length=0:=by rw [h3];rfl
       have hd0:0<nd.length:=by omega
       clear h1 h2 h3 HV HRS;go_wp2_with fail;have HG2:=HG1;have HS2:=HS1;have HW2:=HW1;generalize wr=wz at *;clear HBB;go_loopw [5] (fun i w5=>∃ k:Nat,k<=nd.length/\i=.int .i64 k/\cz (nd.take k)=true/\Below wz.heap.size wz w5) (fun i _=>nd.length - (intOf i).toNat)
       case atStart=>exact ⟨0,Nat.zero_le _,rfl,rfl,Below.refl _ _⟩
       case round=>
        obtain ⟨k,hk,rfl,hu,hb⟩:=hrel;have HU:=Z hu;have HB3:=Z hb;have HG3:=Z (af HG2.out hb);have HS3:=Z (HS2.out.keep hb);have HW3:=Z (HW2.out.trans (hb.mono HW2.out.size));clear hu hb a0 a1 a2 a3 a4;obtain ⟨a0,a1,a2,a3,a4⟩:=aa HG3.out;simp only at a0 a1 a2 a3;by_cases hlt:k<nd.length
        ·obtain ⟨b,off,rfl,hbl,hc⟩:=HS3.out.d.int hlt;have hlt2:(k:Int)<(nd.length:Int):=by omega
         cases hp:cI nd[k]
         ·have HV3:=Z (HV2.out.trans (yu hlt hp));go_wp2_with fail;refine (kS nd[k] wr).mono ?_;rw [hp];rintro e w2 ⟨rfl,rfl⟩;clear hp;go_wp2_with fail;go_ret;exact ⟨by rw [HV3.out];rfl,HW3.out⟩
         ·have HP:=Z hp;go_wp2_with fail;refine (kS nd[k] wr).mono ?_;rw [hp];rintro e w2 ⟨rfl,rfl⟩;clear hp;obtain ⟨wo,hwo⟩:∃ wo:World,wo=wr:=⟨_,rfl⟩;subst hwo;go_wp2_with fail;go_loopw [6] (fun i w5=>∃ m:Nat,m<=k/\i=.int .i64 m/\(∀ j,(h:j<m)->(h2:j<k)->(nd[j]'(by omega))≠nd[k])/\Below wo.heap.size wo w5) (fun i _=>k - (intOf i).toNat)
          case atStart=>exact ⟨0,Nat.zero_le _,rfl,fun j h=>absurd h (Nat.not_lt_zero _),Below.refl _ _⟩
          case round=>
           obtain ⟨m,hm,rfl,hn,hb⟩:=hrel;have HN:=Z hn;have HB4:=Z hb;have HG4:=Z (af HG3.out hb);have HS4:=Z (HS3.out.keep hb);have HW4:=Z (HW3.out.trans (hb.mono HW3.out.size));clear hn hb a0 a1 a2 a3 a4 hc hbl;obtain ⟨a0,a1,a2,a3,a4⟩:=aa HG4.out;simp only at a0 a1 a2 a3;by_cases hmk:m<k
           ·obtain ⟨b1,off1,he,hbl,hc⟩:=HS4.out.d.int hlt;injection he with he
            injection he with e1 e2
            subst e1 e2;obtain ⟨b2,off2,he,-,hc2⟩:=HS4.out.d.int (show m<nd.length by omega);injection he with he
            injection he with e1 e2
            subst e1 e2;have hm2:(m:Int)<(nd.length:Int):=by omega
            have hm3:(m:Int)<(k:Int):=by omega
            by_cases hq2:(nd[m]'(by omega))=nd[k]
            ·have HV3:=Z (HV2.out.trans (xq hlt hmk hq2));have hq3:((nd[m]'(by omega)) == nd[k])=true:=by simpa using hq2
             clear hq2 HN;obtain ⟨x,hx⟩:∃ x,x=nd[m]'(by omega):=⟨_,rfl⟩;obtain ⟨y,hy⟩:∃ y,y=nd[k]:=⟨_,rfl⟩;rw [<- hx] at hc2 hq3;rw [<- hy] at hc hq3;clear hx hy;go_upto_region 25 with fail
             have f1:=bj a3 a4;have f2:=bj hc hbl;have f3:=bj hc2 hbl;refine aM (by kernel_rfl) (by kernel_rfl) ?_
             repeat (go_big_quiet_step (fail))
             refine Bt ?_;rintro w7 ⟨⟨w8,hb8⟩,rfl⟩;have HB8:=Z hb8;clear hb8;go_wp2_with fail;go_ret;exact ⟨by rw [HV3.out];rfl,HW4.out.trans (HB8.out.mono HW4.out.size)⟩
            ·have HN2:=Z (show ∀ j,(h:j<m+1)->(h2:j<k)->(nd[j]'(by omega))≠nd[k] from fun j h h2=>by
              rcases Nat.lt_succ_iff_lt_or_eq.1 h with h | rfl
              ·exact HN.out j h h2
              ·exact hq2)
             have hq3:((nd[m]'(by omega)) == nd[k])=false:=by simpa using hq2
             clear hq2 HN;obtain ⟨x,hx⟩:∃ x,x=nd[m]'(by omega):=⟨_,rfl⟩;obtain ⟨y,hy⟩:∃ y,y=nd[k]:=⟨_,rfl⟩;rw [<- hx] at hc2 hq3;rw [<- hy] at hc hq3;clear hx hy;go_upto_region 25 with fail
             have f1:=bj a3 a4;have f2:=bj hc hbl;have f3:=bj hc2 hbl;refine aM (by kernel_rfl) (by kernel_rfl) ?_
             repeat (go_big_quiet_step (fail))
             refine Bt ?_;rintro w7 ⟨⟨w8,hb8⟩,rfl⟩;have HB8:=Z hb8;clear hb8;go_wp2_with fail;go_roundw
             case rel=>exact ⟨m+1,by omega,by go_num,HN2.out,HB4.out.trans (HB8.out.mono HB4.out.size)⟩
             case measure=>simp [intOf];omega
           ·obtain rfl:m=k:=by omega
            have HU2:=Z (vy hlt HU.out HP.out (fun j h=>HN.out j h h));clear hmk hm;go_wp2_with fail;go_roundw
            case rel=>exact ⟨m+1,by omega,by go_num,HU2.out,HB3.out.trans (HB4.out.mono HB3.out.size)⟩
            case measure=>simp [intOf];omega
        ·obtain rfl:k=nd.length:=by omega
         have HV3:=Z (show aD ⟨false,nk,nc,nd⟩=true by rw [HV2.out,<- HU.out,List.take_length]);clear hlt hk;go_wp2_with fail;go_ret;exact ⟨by rw [HV3.out];rfl,HW3.out⟩
      ·have HV2:=Z (show aD ⟨false,nk,nc,nd⟩=false by rw [HV.out];simp [h3]);have hz3:¬ nc.length=0:=by have:=List.length_pos_iff.2 h3;omega
       have hz:((nc.length:Int) == 0)=false:=by simp;omega
       have hz2:((nc.length:Int) != 0)=true:=by rw [bne,hz];rfl
       clear h1 h2 h3;go_wp2_with fail;go_ret;exact ⟨by rw [HV2.out];rfl,HW1.out⟩
     ·have HV2:=Z (show aD ⟨false,nk,nc,nd⟩=false by rw [HV.out];simp [h2]);have hq:((nd.length:Int) == (nk.length:Int)+1)=false:=by simp;omega
      have hq2:¬ (nd.length:Int)=(nk.length:Int)+1:=by omega
      have hq3:((nd.length:Int) != (nk.length:Int)+1)=true:=by rw [bne,hq];rfl
      clear h1 h2;go_wp2_with fail;go_ret;exact ⟨by rw [HV2.out];rfl,HW1.out⟩
   ·have HV:=Z (show aD ⟨true,nk,nc,nd⟩=(decide (nc.length=nk.length) && decide (nd=[]) && nc.all aI) by unfold aD;rw [HRS.out];rfl);by_cases h1:nc.length=nk.length
    ·have hq:((nc.length:Int) == (nk.length:Int))=true:=by rw [h1];simp
     have hq2:(nc.length:Int)=(nk.length:Int):=by omega
     have hq3:((nc.length:Int) != (nk.length:Int))=false:=by rw [bne,hq];rfl
     by_cases h2:nd=[]
     ·have HV2:=Z (show aD ⟨true,nk,nc,nd⟩=nc.all aI by rw [HV.out];simp [h1,h2]);have hz:((nd.length:Int) == 0)=true:=by rw [h2];rfl
      have hz2:((nd.length:Int) != 0)=false:=by rw [bne,hz];rfl
      have HA0:=Z (show (nc.drop 0).all aI=nc.all aI from rfl);clear h1 h2 HV HRS;go_wp2_with fail;have HG2:=HG1;have HS2:=HS1;have HW2:=HW1;generalize wr=wz at *;clear HBB;go_loopw [4] (fun i w5=>∃ k:Nat,k<=nc.length/\i=.int .i64 k/\(nc.drop k).all aI=nc.all aI/\Below wz.heap.size wz w5) (fun i _=>nc.length - (intOf i).toNat)
      case atStart=>exact ⟨0,Nat.zero_le _,rfl,HA0.out,Below.refl _ _⟩
      case round=>
       obtain ⟨k,hk,rfl,hu,hb⟩:=hrel;have HU:=Z hu;have HBB:=Z hb;have HG3:=Z (af HG2.out hb);have HS3:=Z (HS2.out.keep hb);have HW3:=Z (HW2.out.trans (hb.mono HW2.out.size));clear hu hb a0 a1 a2 a3 a4;obtain ⟨a0,a1,a2,a3,a4⟩:=aa HG3.out;simp only at a0 a1 a2 a3;by_cases hlt:k<nc.length
       ·obtain ⟨b,off,rfl,hbl,-,hc0,hc1,hc2⟩:=HS3.out.c.zT hlt;have hlt2:(k:Int)<(nc.length:Int):=by omega
        have HU2:=Z (show nc.all aI=(aI nc[k] && (nc.drop (k+1)).all aI) by rw [<- HU.out,List.drop_eq_getElem_cons hlt,List.all_cons]);generalize nc[k]=ce at *;go_wp2_with fail;refine (un ce wr).mono ?_;rintro e w4 ⟨rfl,hb⟩;have HB4:=Z (HBB.out.trans (hb.mono HBB.out.size));have HW4:=Z (HW3.out.trans (hb.mono HW3.out.size));clear hb;cases hg:aI ce
        ·have HV3:=Z (show aD ⟨true,nk,nc,nd⟩=false by rw [HV2.out,HU2.out,hg];rfl);go_wp2_with fail;go_ret;exact ⟨by rw [HV3.out];rfl,HW4.out⟩
        ·have HU3:=Z (show (nc.drop (k+1)).all aI=nc.all aI by rw [HU2.out,hg,Bool.true_and]);go_wp2_with fail;go_roundw
         case rel=>first | exact ⟨k+1,by omega,by go_num,HU3.out,HB4.out⟩ | ((repeat apply Exists.intro);exact ⟨⟨k+1,by omega,by go_num,HU3.out,HB4.out⟩,by and_intros <;> rfl⟩)
         case measure=>simp [intOf];omega
       ·have HV3:=Z (show aD ⟨true,nk,nc,nd⟩=true by rw [HV2.out,<- HU.out,List.drop_of_length_le (by omega)];rfl);obtain rfl:k=nc.length:=by omega
        clear hlt hk;go_wp2_with fail;go_ret;exact ⟨by rw [HV3.out];rfl,HW3.out⟩
     ·have HV2:=Z (show aD ⟨true,nk,nc,nd⟩=false by rw [HV.out];simp [h2]);have hz3:¬ nd.length=0:=by have:=List.length_pos_iff.2 h2;omega
      have hz:((nd.length:Int) == 0)=false:=by simp;omega
      have hz2:((nd.length:Int) != 0)=true:=by rw [bne,hz];rfl
      clear h1 h2;go_wp2_with fail;go_ret;exact ⟨by rw [HV2.out];rfl,HW1.out⟩
    ·have HV2:=Z (show aD ⟨true,nk,nc,nd⟩=false by rw [HV.out];simp [h1]);have hq:((nc.length:Int) == (nk.length:Int))=false:=by simp;omega
     have hq2:¬ (nc.length:Int)=(nk.length:Int):=by omega
     have hq3:((nc.length:Int) != (nk.length:Int))=true:=by rw [bne,hq];rfl
     clear h1;go_wp2_with fail;go_ret;exact ⟨by rw [HV2.out];rfl,HW1.out⟩
end Go.Proofs.YtknioodagnjchaaGreatDoor
namespace Go.Proofs.YtknioodagnjchaaGreatDoor
open Option renaming some_ne_none->Bt
def eW:Option Nat->Int
 | none=>-1
 | some a=>a
def cZ (l:By):Option Nat->Nat × Option Nat
 | none=>(0,none)
 | some a=>if l.length<a then (0,none) else if (iE (l.drop a)).2.2≠0\/5000<(iE (l.drop a)).1 then (0,none) else ((iE (l.drop a)).1,some (a+(iE (l.drop a)).2.1))
def ci (l:By):Option Nat->Nat->By × Option Nat
 | none,_=>([],none)
 | some a,n=>if l.length<a+n then ([],none) else ((l.drop a).take n,some (a+n))
def fG (l:By) (p:Option Nat):Nat × Option Nat:=((ci l p 4).2.elim 0 fun _=>cw (ci l p 4).1,(ci l p 4).2)
def kT (l:By) (p:Option Nat):By × Option Nat:=ci l (cZ l p).2 (cZ l p).1
def fH (l:By) (p:Option Nat):Ce × Option Nat:=
 if 40<(cZ l p).1 then (⟨(cZ l p).1,[],(fG l (cZ l p).2).1⟩,(fG l (cZ l p).2).2)
 else (⟨(cZ l p).1,(ci l (cZ l p).2 (cZ l p).1).1,0⟩,(ci l (cZ l p).2 (cZ l p).1).2)
def ul (l:By):Nat->Option Nat->Nd->Option (Option Nat × Nd)
 | 0,p,n=>some (p,n)
 | _+1,none,n=>some (none,n)
 | c+1,some a,n=>match (kT l (some a)).2 with
   | none=>none
   | some b=>if n.leaf then ul l c (fH l (some b)).2 { n with keys:=n.keys ++ [(kT l (some a)).1],cells:=n.cells ++ [(fH l (some b)).1] }
     else ul l c (fG l (some b)).2 { n with keys:=n.keys ++ [(kT l (some a)).1],kids:=n.kids ++ [((fG l (some b)).1:Int)] }
def cB (l:By):Option Nat × Nd:=
 if l.getD 0 0=1 then (some 3,⟨true,[],[],[]⟩) else ((fG l (some 3)).2,⟨false,[],[],[((fG l (some 3)).1:Int)]⟩)
def pC (l:By):Option (Option Nat × Nd):=ul l (cw ((l.drop 1).take 2)) (cB l).1 (cB l).2
def vN (l:By):Option Nd:=match pC l with
 | some (some _,n)=>if dX n=0/\eI n=l then some n else none
 | _=>none
def tT (l:By) (p:Option Nat) (r:Rd):Prop:=match p with
 | none=>r.bad=true
 | some a=>a<=l.length/\r=⟨l.drop a,false⟩
theorem tO {l:By} {p:Option Nat} {r:Rd} (h:tT l p r):tT l (cZ l p).2 (bK r).2/\((cZ l p).2≠none->(bK r).1=(cZ l p).1):=by
 cases p with
 | none=>
   refine ⟨?_,fun h=>absurd rfl h⟩;show (bK r).2.bad=true;cases hb:(bK r).2.bad
   ·have h:r.bad=true:=h;rw [((im r).2 hb).1] at h;cases h
   ·rfl
 | some a=>
   obtain ⟨ha,rfl⟩:=h;unfold cZ bK;simp only;rw [if_neg (by omega)]
   split
   ·exact ⟨rfl,fun h=>absurd rfl h⟩
   ·rename_i h0
    have h1:(iE (l.drop a)).2.2=0:=Decidable.of_not_not fun h=>h0 (.inl h)
    have h2:=lR h1;rw [List.length_drop] at h2;refine ⟨⟨by omega,?_⟩,fun _=>rfl⟩;simp only;rw [List.drop_drop]
theorem ji {l:By} {p:Option Nat} {r:Rd} (n:Nat) (h:tT l p r):tT l (ci l p n).2 (cP r n).2/\((ci l p n).2≠none->(cP r n).1=(ci l p n).1):=by
 cases p with
 | none=>
   refine ⟨?_,fun h=>absurd rfl h⟩;show (cP r n).2.bad=true;cases hb:(cP r n).2.bad
   ·have h:r.bad=true:=h;rw [(fh r n).2.2 hb] at h;cases h
   ·rfl
 | some a=>
   obtain ⟨ha,rfl⟩:=h;unfold ci cP;simp only [List.length_drop];by_cases h1:l.length<a+n
   ·rw [if_pos h1,if_pos (by omega)];exact ⟨rfl,fun h=>absurd rfl h⟩
   ·rw [if_neg h1,if_neg (by omega)];refine ⟨⟨by omega,?_⟩,fun _=>rfl⟩;simp only;rw [List.drop_drop]
theorem mj {l:By} {p:Option Nat} {r:Rd} (h:tT l p r):tT l (fG l p).2 (dK r).2/\((fG l p).2≠none->(dK r).1=(fG l p).1):=by
 obtain ⟨h1,h2⟩:=ji 4 h;refine ⟨h1,fun h3=>?_⟩;have h3:(ci l p 4).2≠none:=h3;unfold fG dK;rw [h2 h3];cases hq:(ci l p 4).2 with
 | none=>exact absurd hq h3
 | some b=>rfl
theorem yg {l:By} {p:Option Nat} {r:Rd} (h:tT l p r):tT l (kT l p).2 (ep r).2/\((kT l p).2≠none->(ep r).1=(kT l p).1):=by
 obtain ⟨h1,h2⟩:=tO h;unfold kT ep;cases hq:(cZ l p).2 with
 | none=> rw [hq] at h1;exact ⟨(ji (l:=l) (p:=none) (bK r).1 h1).1,fun h=>absurd rfl h⟩
 | some b=> have h3:=h2 (by rw [hq];exact Bt _);rw [hq] at h1;rw [h3];exact ji _ h1
theorem wZ {l:By} {p:Option Nat} {r:Rd} (h:tT l p r):tT l (fH l p).2 (ed r).2/\((fH l p).2≠none->(ed r).1=(fH l p).1):=by
 obtain ⟨h1,h2⟩:=tO h;unfold fH ed;cases hq:(cZ l p).2 with
 | none=>
   rw [hq] at h1;have hn:(cZ l p).1=0:=by
    cases p with
    | none=>rfl
    | some a=>
      unfold cZ at hq ⊢;simp only at hq ⊢
      split
      ·rfl
      ·rename_i h3
       rw [if_neg h3] at hq
       split
       ·rfl
       ·rename_i h4
        rw [if_neg h4] at hq;cases hq
   rw [hn,if_neg (by decide)];refine ⟨?_,fun h=>absurd rfl h⟩
   split
   ·exact (mj (l:=l) (p:=none) h1).1
   ·exact (ji (l:=l) (p:=none) _ h1).1
 | some b=>
   have h3:=h2 (by rw [hq];exact Bt _);rw [hq] at h1;rw [h3];obtain ⟨f1,f2⟩:=mj h1;obtain ⟨p1,p2⟩:=ji (cZ l p).1 h1
   split
   ·exact ⟨f1,fun hn=>by simp only [f2 hn]⟩
   ·exact ⟨p1,fun hn=>by simp only [p2 hn]⟩
theorem xB (l:By):∀ (c:Nat) (p:Option Nat) (n:Nd) (r:Rd),tT l p r->match ul l c p n with
  | none=>(kB c r n).1.bad=true
  | some (none,_)=>(kB c r n).1.bad=true
  | some (some a,n')=>kB c r n=(⟨l.drop a,false⟩,n')
 | 0,none,n,r,h=>h
 | 0,some a,n,r,h=>by
   obtain ⟨ha,rfl⟩:=h;rfl
 | c+1,none,n,r,h=>by
   have h:r.bad=true:=h;show (kB (c+1) r n).1.bad=true;unfold kB;rw [if_pos h];exact h
 | c+1,some a,n,r,h=>by
   obtain ⟨k1,k2⟩:=yg h;have hb:r.bad=false:=by rw [h.2]
   unfold ul kB;rw [if_neg (by rw [hb];simp)];cases hq:(kT l (some a)).2 with
   | none=>
     rw [hq] at k1;have k1:(ep r).2.bad=true:=k1
     have bad:∀ (c:Nat) (r:Rd) (n:Nd),r.bad=true->(kB c r n).1.bad=true:=fun c r n hr=>by
      cases c with
      | zero=>exact hr
      | succ c=>unfold kB;rw [if_pos hr];exact hr
     simp only
     split
     ·refine bad _ _ _ ?_;cases hx:(ed (ep r).2).2.bad
      ·rw [(mE _).2.2 hx] at k1;cases k1
      ·rfl
     ·refine bad _ _ _ ?_;cases hx:(dK (ep r).2).2.bad
      ·rw [(io _).2 hx] at k1;cases k1
      ·rfl
   | some b=>
     have k3:=k2 (by rw [hq];exact Bt _);rw [hq] at k1;rw [k3];simp only;obtain ⟨c1,c2⟩:=wZ k1;obtain ⟨f1,f2⟩:=mj k1;by_cases hl:n.leaf=true
     ·rw [if_pos hl,if_pos hl];cases hx:(fH l (some b)).2 with
      | none=>
        rw [hx] at c1;have c1:(ed (ep r).2).2.bad=true:=c1;have g1:=xB l c none { n with keys:=n.keys ++ [(kT l (some a)).1],cells:=n.cells ++ [(fH l (some b)).1] } _ (show tT l none (ed (ep r).2).2 from c1)
        have g2:∀ m m':Nd,(kB c (ed (ep r).2).2 m).1.bad=true:=fun m _=>by
         cases c with
         | zero=>exact c1
         | succ c=>unfold kB;rw [if_pos c1];exact c1
        cases c with
        | zero=>exact g2 _ n
        | succ c=>exact g2 _ n
      | some d=> have c3:=c2 (by rw [hx];exact Bt _);rw [hx] at c1;rw [c3];exact xB l c (some d) _ _ c1
     ·rw [if_neg hl,if_neg hl];cases hx:(fG l (some b)).2 with
      | none=>
        rw [hx] at f1;have f1:(dK (ep r).2).2.bad=true:=f1
        have g2:∀ m m':Nd,(kB c (dK (ep r).2).2 m).1.bad=true:=fun m _=>by
         cases c with
         | zero=>exact f1
         | succ c=>unfold kB;rw [if_pos f1];exact f1
        cases c with
        | zero=>exact g2 _ n
        | succ c=>exact g2 _ n
      | some d=> have f3:=f2 (by rw [hx];exact Bt _);rw [hx] at f1;rw [f3];exact xB l c (some d) _ _ f1
theorem xC {l:By} (hl:l.length=232):vN l=dO l:=by
 have hs:tT l (cB l).1 (aX l).1/\(aX l).2=(cB l).2:=by
  have h3:tT l (some 3) ⟨l.drop 3,false⟩:=⟨by omega,rfl⟩;obtain ⟨f1,f2⟩:=mj h3;unfold cB aX
  split
  ·exact ⟨h3,rfl⟩
  ·refine ⟨f1,?_⟩;simp only;rw [f2 (by
    show (ci l (some 3) 4).2≠none;unfold ci;simp only;rw [if_neg (by omega)];exact Bt _)]
 have hg:=xB l (cw ((l.drop 1).take 2)) (cB l).1 (cB l).2 (aX l).1 hs.1;unfold vN;have hd:=sG (l:=l) (rd:=(dY l).1) (n:=(dY l).2) rfl;rw [hd];unfold dY;rw [hs.2];unfold pC;generalize ul l (cw ((l.drop 1).take 2)) (cB l).1 (cB l).2=x at *;generalize kB (cw ((l.drop 1).take 2)) (aX l).1 (cB l).2=y at *;rcases x with _ | ⟨_ | a,n'⟩
 ·simp only at hg ⊢;rw [if_neg (by rw [hg];simp)]
 ·simp only at hg ⊢;rw [if_neg (by rw [hg];simp)]
 ·simp only at hg ⊢;rw [hg];simp
end Go.Proofs.YtknioodagnjchaaGreatDoor
namespace Go.Proofs.YtknioodagnjchaaGreatDoor
open List renaming drop_eq_getElem_cons->Bt,filter_cons->Bv,drop_eq_nil_of_le->Bx,takeWhile_cons->Bz
open Nat renaming le_refl->Bw
open Go.Lib renaming hid->Z
open Go.RowKit
def iK (ps:List Pr) (k:By):Nat:=(ps.takeWhile fun p=>bM p.1 k).length
def qE (ps:List Pr) (k:By):Bool:=match ps[iK ps k]? with
 | some p=>decide (p.1=k)
 | none=>false
theorem pH {p:Pr} {ps:List Pr} {k:By} (h:bM p.1 k=true):iK (p :: ps) k=iK ps k+1:=by unfold iK;rw [Bz,if_pos h];rfl
theorem sd {p:Pr} {ps:List Pr} {k:By} (h:bM p.1 k=false):iK (p :: ps) k=0:=by unfold iK;rw [Bz,if_neg (by rw [h];simp)];rfl
theorem se {ps:List Pr} {k:By} {i:Nat} (h:iK ps k=i) (hi:i<ps.length):qE ps k=decide (ps[i].1=k):=by unfold qE;rw [h,List.getElem?_eq_getElem hi]
theorem tk {ps:List Pr} {k:By} (h:iK ps k=ps.length):qE ps k=false:=by unfold qE;rw [h,List.getElem?_eq_none (Bw _)]
theorem uq (ps:List Pr) (k:By) (g:Nat) (v:Value) (w:World) (hm:w.heap[g]?=some (.cells #[v] 69 (0,0))) (h:Sl iX 2 w v ps) (hl:ps.length<=1000000):
  Calls Tryz.prog 92 #[.pointer (some ⟨g,0,none⟩),.string (ap k)] w fun e w'=>e=.returned (.tuple #[.int .i64 (iK ps k),.bool (qE ps k)])/\Below w.heap.size w w':=by
 obtain ⟨A,c,rfl⟩:=Sl.zM h;have H:=Z h;have m0:w.cell? ⟨g,0,none⟩=some (.slice A ps.length c):=ae hm 0;have m1:=aj hm;clear h hm;go_enter Tryz.func92,Tryz.ntmps92;go_wp2_with fail;go_loopw [6] (fun s6 wr=>∃ i:Nat,s6=.int .i64 i/\i<=ps.length/\iK ps k=i+iK (ps.drop i) k/\wr=w) (fun s6 _=>ps.length - (intOf s6).toNat)
 case atStart=>exact ⟨0,rfl,Nat.zero_le _,by simp,rfl⟩
 case round=>
  obtain ⟨i,rfl,hi,he,rfl⟩:=hrel;have HE:=Z he;clear he;by_cases hlt:i<ps.length
  ·obtain ⟨b,off,rfl,hbl,c0,c1⟩:=H.out.zW hlt;have hi0:(0:Int)<=(i:Int):=by omega
   have hi1:(i:Int)<(ps.length:Int):=by omega
   have hi2:IntKind.i64.wrap ((i:Int)+1)=((i+1:Nat):Int):=by rw [IntWalk.i64_in _ (by omega)];rfl
   have HD:=Z (show iK ps k=i+iK (ps[i] :: ps.drop (i+1)) k by rw [<- Bt hlt];exact HE.out);have HB:=Z (fun (e:iK ps k=i)=>se e hlt);generalize hpi:ps[i]=p at *;clear hpi HE;have heq:=so (a:=p.1) (b:=k);have hls:Op.bytesLess (ap p.1).toList (ap k).toList=bM p.1 k:=by rw [ay,ay];rfl
   cases hk:bM p.1 k
   ·rw [hk] at hls;have hp:iK ps k=i:=by rw [HD.out,sd hk];rfl
    have HV:=Z hp;have HB2:=Z (HB.out hp);clear hp hk;by_cases hq:p.1=k
    ·rw [decide_eq_true hq] at heq;rw [decide_eq_true hq] at HB2;clear hq;go_wp2_with fail;go_region
     all_goals
      go_wp2_with fail;exact bodyPost_ret (v:=.tuple #[.int .i64 (i:Int),.bool true]) (by simp [results,Tryz.results92,go_sem]) rfl ⟨by rw [HV.out,HB2.out],by go_grown⟩
    ·rw [decide_eq_false hq] at heq;rw [decide_eq_false hq] at HB2;clear hq;go_wp2_with fail;go_region
     all_goals
      go_wp2_with fail;exact bodyPost_ret (v:=.tuple #[.int .i64 (i:Int),.bool false]) (by simp [results,Tryz.results92,go_sem]) rfl ⟨by rw [HV.out,HB2.out],by go_grown⟩
   ·rw [hk] at hls;have HE2:=Z (show iK ps k=i+1+iK (ps.drop (i+1)) k by rw [HD.out,pH hk];omega);clear hk;go_wp2_with fail;go_roundw
    case rel=>exact ⟨i+1,rfl,hlt,HE2.out,by trivial⟩
    case measure=>simp [intOf];omega
  ·obtain rfl:i=ps.length:=by omega
   have hp:iK ps k=ps.length:=by rw [HE.out,List.drop_length];rfl
   have HV:=Z hp;have HB2:=Z (tk hp);clear hp HE hlt hi;go_wp2_with fail;go_region
   all_goals
    go_wp2_with fail;exact bodyPost_ret (v:=.tuple #[.int .i64 (ps.length:Int),.bool false]) (by simp [results,Tryz.results92,go_sem]) rfl ⟨by rw [HV.out,HB2.out],by go_grown⟩
def mX (ps:List Pr) (k v:By):List Pr:=ps.take (iK ps k) ++ [(k,v)] ++ ps.drop (if qE ps k then iK ps k+1 else iK ps k)
theorem vV {p:Pr} {ps:List Pr} {k:By} (h:bM p.1 k=true):qE (p :: ps) k=qE ps k:=by unfold qE;rw [pH h,List.getElem?_cons_succ]
theorem oK:∀ (ps:List Pr) (k:By),ps.Pairwise (fun a b=>bM a.1 b.1=true)->ps.take (iK ps k)=mP ps k/\ps.drop (if qE ps k then iK ps k+1 else iK ps k)=lw ps k
 | [],k,_=>⟨by simp [mP],by simp [lw]⟩
 | p :: ps,k,h=>by
   obtain ⟨h1,h2⟩:=List.pairwise_cons.1 h;obtain ⟨i1,i2⟩:=oK ps k h2;rcases ju p.1 k with hk | hk | hk
   ·rw [pH hk,vV hk];constructor
    ·rw [List.take_succ_cons,i1];unfold mP;rw [Bv,if_pos hk]
    ·have e:(p :: ps).drop (if qE ps k=true then iK ps k+1+1 else iK ps k+1)=ps.drop (if qE ps k=true then iK ps k+1 else iK ps k):=by split <;> rfl
     rw [e,i2];unfold lw;rw [Bv,if_neg (by rw [aL hk];simp)]
   ·have h0:iK (p :: ps) k=0:=sd (by rw [hk];exact eG k);have hb:qE (p :: ps) k=true:=by rw [se h0 (by simp)];simpa using hk
    have ha:∀ q ∈ ps,bM k q.1=true:=fun q hq=>by rw [<- hk];exact h1 q hq
    rw [h0,hb];constructor
    ·unfold mP;rw [Bv,if_neg (by rw [hk,eG];simp)];exact (ja fun q hq=>aL (ha q hq)).symm
    ·show ps=lw (p :: ps) k;unfold lw;rw [Bv,if_neg (by rw [hk,eG];simp)];exact (jw ha).symm
   ·have h0:iK (p :: ps) k=0:=sd (aL hk);have hb:qE (p :: ps) k=false:=by rw [se h0 (by simp)];simpa using (ir hk).symm
    have ha:∀ q ∈ p :: ps,bM k q.1=true:=fun q hq=>by
     rcases List.mem_cons.1 hq with rfl | hq
     ·exact hk
     ·exact cS hk (h1 q hq)
    rw [h0,hb];exact ⟨(ja fun q hq=>aL (ha q hq)).symm,(jw ha).symm⟩
theorem tH {ps:List Pr} (k v:By) (h:ps.Pairwise (fun a b=>bM a.1 b.1=true)):mX ps k v=putP ps k v:=by obtain ⟨h1,h2⟩:=oK ps k h;unfold mX putP;rw [h1,h2,List.append_assoc];rfl
theorem uo {ps:List Pr} (k v:By) (h:ps.Pairwise (fun a b=>bM a.1 b.1=true)):(putP ps k v).Pairwise (fun a b=>bM a.1 b.1=true):=by
 unfold putP;refine List.pairwise_append.2 ⟨h.filter _,List.pairwise_cons.2 ⟨fun q hq=>?_,h.filter _⟩,fun a ha b hb=>?_⟩
 ·exact (List.mem_filter.1 hq).2
 ·have h1:bM a.1 k=true:=(List.mem_filter.1 ha).2;rcases List.mem_cons.1 hb with rfl | hb
  ·exact h1
  ·exact cS h1 (List.mem_filter.1 hb).2
theorem nR:ElemT Tryz.prog 67 62 iX 2 32:=
 ElemT.mk' (z:=.agg #[.string ⟨#[]⟩,.string ⟨#[]⟩]) Tryz.underlying67 (by kernel_rfl) rfl (by decide) aV (fun x u hu=>by
  simp only [iX,List.mem_cons,List.not_mem_nil,or_false] at hu;rcases hu with rfl | rfl <;> rfl)
theorem Own.AO {base:Nat} {w:World} {g n c:Nat} {xs:List Pr} (h:Own iX 2 62 base w (.slice (some ⟨g,0,none⟩) n c) xs) {i:Nat} (o:Nat) (ho:i<xs.length->o=i * 2) (m:Nat) (hm:m=xs.length - i) (c':Nat):Sl iX 2 w (.slice (some ⟨g,o,none⟩) m c') (xs.drop i):=by
 subst hm;refine ⟨some ⟨g,o,none⟩,c',by rw [List.length_drop],fun hne=>?_⟩;have hlt:i<xs.length:=by
  rcases Nat.lt_or_ge i xs.length with h | h
  ·exact h
  ·exact absurd (List.drop_of_length_le h) hne
 obtain rfl:=ho hlt;refine ⟨g,i * 2,rfl,(h.lt g rfl).2,fun k x hx j u hu=>?_⟩;rw [List.getElem?_drop] at hx;rcases (h.sl aV).cases with ⟨_,_,_,h0⟩ | ⟨b2,off2,c2,he,-,hb2,hsl⟩
 ·rw [h0] at hlt;simp at hlt
 ·injection he with e1 e2 e3
  injection e1 with e1
  injection e1 with e4 e5
  subst e4 e5;obtain ⟨hk,rfl⟩:=List.getElem?_eq_some_iff.1 hx;have:=(hsl.cells hk).2 j u hu;rw [show i * 2+k * 2+j=0+(i+k) * 2+j by omega];exact this
theorem yA {w:World} {g:Nat} {v:Value} {t:TypeId} (h:w.heap[g]?=some (.cells #[v] t (0,0))) (u:Value):(w.setCell ⟨g,0,none⟩ u).heap[g]?=some (.cells #[u] t (0,0)):=by simp [World.setCell,Array.getElem?_modify,h]
theorem vU (ps:List Pr) (k:By):iK ps k<=ps.length:=(List.takeWhile_sublist _).length_le
theorem yD {ps:List Pr} {k:By} (h:qE ps k=true):iK ps k<ps.length:=by
 rcases Nat.lt_or_ge (iK ps k) ps.length with h1 | h1
 ·exact h1
 ·rw [tk (Nat.le_antisymm (vU _ _) h1)] at h;cases h
def yV (w:World) (g base:Nat) (ps:List Pr):Prop:=∃ v,w.heap[g]?=some (.cells #[v] 69 (0,0))/\Own iX 2 62 base w v ps
theorem qK (ps:List Pr) (k x:By) (g base:Nat) (w:World) (h:yV w g base ps) (hl:ps.length<=1000):
  Calls Tryz.prog 44 #[.pointer (some ⟨g,0,none⟩),.string (ap k),.string (ap x)] w fun e w'=>(∃ r,e=.returned r)/\yV w' g w.heap.size (mX ps k x)/\Ch (fun j=>j=g) w w':=by
 obtain ⟨v,hm,h⟩:=h;have HPL:=Z (uq ps k g v w hm (h.sl aV) (by omega));have HIN:=Z (show mX ps k x=ps.take (iK ps k) ++ [(k,x)] ++ ps.drop (if qE ps k then iK ps k+1 else iK ps k) from rfl);have HIB:=Z (yD (ps:=ps) (k:=k));have hn:=vU ps k;generalize iK ps k=p at *;generalize qE ps k=q at *;have HM:=Z hm;have m0:=ae hm 0;have m1:=aj hm;clear hm;rcases h.2 with ⟨rfl,h0⟩ | ⟨g2,c,cur,rfl,hbs,hg2,hnc,hmx,hcc,htk⟩
 ·obtain rfl:ps=[]:=List.eq_nil_of_length_eq_zero h0;obtain rfl:p=0:=by simpa using hn
  obtain rfl:q=false:=by
   cases q
   ·rfl
   ·exact absurd (HIB.out rfl) (by simp)
  clear h h0 hn;go_enter Tryz.func44,Tryz.ntmps44;go_wp2_with fail;refine HPL.out.mono ?_;rintro e w1 ⟨rfl,hb⟩;have HM1:=Z (af HM.out hb);have HB1:=Z hb;have hsz:=hb.size;clear m0 hb;have m0:=ae HM1.out 0;have m2:=aj HM1.out;have HOX:=Z (show Own iX 2 62 w1.heap.size (w1.alloc (.cells #[] 62)) (.slice (some ⟨w1.heap.size,0,none⟩) 0 0) ([]:List Pr) from World.ownsRow_lit w1 #[] 0 (Bw _) (by simp [maxLen]) (by simp));go_wp2_with (at_builtin;refine Hid.out ?_);refine Z ?_;refine al rfl rfl nR rfl rfl HOX.out (Sl.nil (f:=iX) (size:=2)) (by simp [maxLen]) (by simp) (by simp) ?_;intro v4 w4 ho hg hat;have HO4:=Z (show Own iX 2 62 w1.heap.size w4 v4 ([]:List Pr) from ho);have HB4:=Z (show Below w1.heap.size w1 w4 from ca ((Below.refl _ w1).alloc (Bw _) _) hg (by simp) (fun j hj=>(HOX.out.lt j hj).1));clear ho hg hat;obtain ⟨A4,c4,rfl⟩:=Sl.zM (HO4.out.sl aV);go_wp2_with (at_builtin;refine Hid.out ?_);refine Z ?_;refine al (base:=w1.heap.size) rfl rfl nR rfl rfl (HO4.out.alloc _) (Sl.one ((k,x):Pr) (by simp) aV rfl) (by simp [maxLen]) (by simp) (by have:=HB4.out.size;simp;omega) ?_;intro v5 w5 ho hg hat;have HO5:=Z (show Own iX 2 62 w1.heap.size w5 v5 [(k,x)] from ho);have HB5:=Z (show Below w1.heap.size w1 w5 from ca (HB4.out.alloc HB4.out.size _) hg (by have:=HB4.out.size;simp;omega) (fun j hj=>(HO4.out.lt j hj).1));clear ho hg hat;have hlt5:[((k,x):Pr)].length=0+1:=rfl;obtain ⟨A5,c5,rfl⟩:=Sl.zM (HO5.out.sl aV);have HM5:=Z (af HM1.out HB5.out);clear m0 m2;have m0:=ae HM5.out 0;have m2:=aj HM5.out;have m3:=ab HM5.out;go_wp2_with (at_builtin;refine Hid.out ?_);refine Z ?_;refine al (base:=w1.heap.size) rfl rfl nR rfl rfl HO5.out (Sl.nil (f:=iX) (size:=2)) (by simp [maxLen] <;> omega) (by simp <;> omega) (by have:=HB5.out.size;simp;omega) ?_;intro v7 w7 ho hg hat;have HO7:=Z (show Own iX 2 62 w1.heap.size w7 v7 (mX [] k x) by rw [HIN.out];exact ho);have HB7:=Z (show Below w1.heap.size w1 w7 from ca HB5.out hg (by have:=HB5.out.size;omega) (fun j hj=>(HO5.out.lt j hj).1));clear ho hg hat;obtain ⟨A7,c7,rfl⟩:=Sl.zM (HO7.out.sl aV);have HM7:=Z (af HM1.out HB7.out);clear m0 m2 m3;have m0:=ae HM7.out 0;have m2:=aj HM7.out;have m3:=ab HM7.out;go_wp2_with fail;refine bodyPost_end (results_none rfl _ _ _) rfl ?_;have hset:=(Ch.refl (fun j=>j=g) w7).setCell (p:=⟨g,0,none⟩) rfl (.slice A7 (mX [] k x).length c7);exact ⟨⟨_,rfl⟩,⟨_,yA HM7.out _,(HO7.out.ch hset fun j hj e=>by have:=(HO7.out.lt j hj).1;omega).base hsz⟩,(Ch.zK HB1.out).trans ((Ch.zK HB7.out).trans hset)⟩
 ·have H:=Z h;have hg2l:=aj hg2;have f2:=ab hg2;clear h hg2 hmx hcc htk hbs;go_enter Tryz.func44,Tryz.ntmps44;go_wp2_with fail;refine HPL.out.mono ?_;rintro e w1 ⟨rfl,hb⟩;have HM1:=Z (af HM.out hb);have H1:=Z (H.out.below hb);have HB1:=Z hb;have hsz:=hb.size;clear m0 hb;have m0:=ae HM1.out 0;have m2:=aj HM1.out;have hp0:(p:Int)<=(c:Int):=by omega
  have hp1:(0:Int)<=(p:Int):=by omega
  have hp2:(p:Int)<=(ps.length:Int):=by omega
  have HOX:=Z (show Own iX 2 62 w1.heap.size (w1.alloc (.cells #[] 62)) (.slice (some ⟨w1.heap.size,0,none⟩) 0 0) ([]:List Pr) from World.ownsRow_lit w1 #[] 0 (Bw _) (by simp [maxLen]) (by simp));go_wp2_with (at_builtin;refine Hid.out ?_);refine Z ?_;have hlt:(ps.take p).length=p:=by rw [List.length_take];omega
  refine al rfl rfl nR rfl rfl HOX.out (((H1.out.AZ aV hn).sl aV).alloc _) (by rw [hlt];simp [maxLen];omega) (by rw [hlt];simp;omega) (by simp) ?_;intro v4 w4 ho hg hat;have HO4:=Z (show Own iX 2 62 w1.heap.size w4 v4 (ps.take p) from ho);have HB4:=Z (show Below w1.heap.size w1 w4 from ca ((Below.refl _ w1).alloc (Bw _) _) hg (by simp) (fun j hj=>(HOX.out.lt j hj).1));clear ho hg hat;obtain ⟨A4,c4,hv4⟩:=Sl.zM (HO4.out.sl aV);rw [hlt] at hv4;subst hv4;go_wp2_with (at_builtin;refine Hid.out ?_);refine Z ?_;refine al (base:=w1.heap.size) rfl rfl nR rfl rfl (HO4.out.alloc _) (Sl.one ((k,x):Pr) (by simp) aV rfl) (by rw [hlt];simp [maxLen];omega) (by rw [hlt];simp;omega) (by have:=HB4.out.size;simp;omega) ?_;intro v5 w5 ho hg hat;have HO5:=Z (show Own iX 2 62 w1.heap.size w5 v5 (ps.take p ++ [(k,x)]) from ho);have HB5:=Z (show Below w1.heap.size w1 w5 from ca (HB4.out.alloc HB4.out.size _) hg (by have:=HB4.out.size;simp;omega) (fun j hj=>(HO4.out.lt j hj).1));clear ho hg hat;have hlt5:(ps.take p ++ [(k,x)]).length=p+1:=by rw [List.length_append,hlt];rfl
  obtain ⟨A5,c5,hv5⟩:=Sl.zM (HO5.out.sl aV);rw [hlt5] at hv5;subst hv5;have HM5:=Z (af HM1.out HB5.out);have H5:=Z (H1.out.below HB5.out);clear m0 m2;have m0:=ae HM5.out 0;have m2:=aj HM5.out;have m3:=ab HM5.out;cases q
  ·go_wp2_with (at_builtin;refine Hid.out ?_)
   all_goals
    refine Z ?_;refine al (base:=w1.heap.size) rfl rfl nR rfl rfl HO5.out (H5.out.AO (i:=p) _ (by omega) _ (by omega) _) (by simp [maxLen] <;> omega) (by simp <;> omega) (by have:=HB5.out.size;simp;omega) ?_;intro v7 w7 ho hg hat;have HO7:=Z (show Own iX 2 62 w1.heap.size w7 v7 (mX ps k x) by rw [HIN.out];exact ho);have HB7:=Z (show Below w1.heap.size w1 w7 from ca HB5.out hg (by have:=HB5.out.size;omega) (fun j hj=>(HO5.out.lt j hj).1));clear ho hg hat;obtain ⟨A7,c7,rfl⟩:=Sl.zM (HO7.out.sl aV);have HM7:=Z (af HM1.out HB7.out);clear m0 m2 m3;have m0:=ae HM7.out 0;have m2:=aj HM7.out;have m3:=ab HM7.out;go_wp2_with fail;refine bodyPost_end (results_none rfl _ _ _) rfl ?_;have hset:=(Ch.refl (fun j=>j=g) w7).setCell (p:=⟨g,0,none⟩) rfl (.slice A7 (mX ps k x).length c7);exact ⟨⟨_,rfl⟩,⟨_,yA HM7.out _,(HO7.out.ch hset fun j hj e=>by have:=(HO7.out.lt j hj).1;omega).base hsz⟩,(Ch.zK HB1.out).trans ((Ch.zK HB7.out).trans hset)⟩
  ·have hpl:=HIB.out rfl;have hp3:IntKind.i64.wrap ((p:Int)+1)=((p+1:Nat):Int):=by rw [IntWalk.i64_in _ (by omega)];rfl
   have hp4:((p+1:Nat):Int)<=(c:Int):=by omega
   have hp5:((p+1:Nat):Int)<=(ps.length:Int):=by omega
   go_wp2_with (at_builtin;refine Hid.out ?_)
   all_goals
    refine Z ?_;refine al (base:=w1.heap.size) rfl rfl nR rfl rfl HO5.out (H5.out.AO (i:=p+1) _ (by omega) _ (by omega) _) (by simp [maxLen] <;> omega) (by simp <;> omega) (by have:=HB5.out.size;simp;omega) ?_;intro v7 w7 ho hg hat;have HO7:=Z (show Own iX 2 62 w1.heap.size w7 v7 (mX ps k x) by rw [HIN.out];exact ho);have HB7:=Z (show Below w1.heap.size w1 w7 from ca HB5.out hg (by have:=HB5.out.size;omega) (fun j hj=>(HO5.out.lt j hj).1));clear ho hg hat;obtain ⟨A7,c7,rfl⟩:=Sl.zM (HO7.out.sl aV);have HM7:=Z (af HM1.out HB7.out);clear m0 m2 m3;have m0:=ae HM7.out 0;have m2:=aj HM7.out;have m3:=ab HM7.out;go_wp2_with fail;refine bodyPost_end (results_none rfl _ _ _) rfl ?_;have hset:=(Ch.refl (fun j=>j=g) w7).setCell (p:=⟨g,0,none⟩) rfl (.slice A7 (mX ps k x).length c7);exact ⟨⟨_,rfl⟩,⟨_,yA HM7.out _,(HO7.out.ch hset fun j hj e=>by have:=(HO7.out.lt j hj).1;omega).base hsz⟩,(Ch.zK HB1.out).trans ((Ch.zK HB7.out).trans hset)⟩
theorem mC (xs ys:List Pr) (v u:Value) (w:World) (hx:Sl iX 2 w v xs) (hy:Sl iX 2 w u ys) (hl:xs.length<=1000000):
  Calls Tryz.prog 41 #[v,u] w fun e w'=>e=.returned (.bool (decide (xs=ys)))/\Below w.heap.size w w':=by
 obtain ⟨A,c,rfl⟩:=Sl.zM hx;obtain ⟨A2,c2,rfl⟩:=Sl.zM hy;have HX:=Z hx;have HY:=Z hy;clear hx hy;go_enter Tryz.func41,Tryz.ntmps41;by_cases hn:xs.length=ys.length
 ·have hn1:((xs.length:Int) == (ys.length:Int))=true:=by rw [hn];simp
  have HN:=Z hn;have hn2:(xs.length:Int)=(ys.length:Int):=by omega
  clear hn;go_wp2_with fail;go_loopw [5] (fun s5 wr=>∃ i:Nat,s5=.int .i64 i/\i<=xs.length/\(xs=ys↔xs.drop i=ys.drop i)/\Below w.heap.size w wr) (fun s5 _=>xs.length - (intOf s5).toNat)
  case atStart=>exact ⟨0,rfl,Nat.zero_le _,Iff.rfl,Below.refl _ _⟩
  case round=>
   obtain ⟨i,rfl,hi,he,hb⟩:=hrel;have HE:=Z he;have HB:=Z hb;have hbs:=hb.size;clear he hb;by_cases hlt:i<xs.length
   ·have hlt2:i<ys.length:=by have:=HN.out;omega
    obtain ⟨b,off,rfl,hbl,c0,c1⟩:=(HX.out.keep HB.out).zW hlt;obtain ⟨b2,off2,rfl,hbl2,d0,d1⟩:=(HY.out.keep HB.out).zW hlt2;have hi0:(0:Int)<=(i:Int):=by omega
    have hi1:(i:Int)<(xs.length:Int):=by omega
    have hi3:(i:Int)<(ys.length:Int):=by omega
    have hi2:IntKind.i64.wrap ((i:Int)+1)=((i+1:Nat):Int):=by rw [IntWalk.i64_in _ (by omega)];rfl
    have HD:=Z (show (xs=ys↔xs[i]=ys[i]/\xs.drop (i+1)=ys.drop (i+1)) by
     rw [HE.out,Bt hlt,Bt hlt2,List.cons.injEq])
    clear HE;generalize xs[i]=p at *;generalize ys[i]=q at *;obtain ⟨pk,pv⟩:=p;obtain ⟨qk,qv⟩:=q;dsimp only at c0 c1 d0 d1;have hk:=so (a:=pk) (b:=qk);have hv:=so (a:=pv) (b:=qv);by_cases h1:pk=qk
    ·rw [decide_eq_true h1] at hk;by_cases h2:pv=qv
     ·rw [decide_eq_true h2] at hv;have HE2:=Z (show (xs=ys↔xs.drop (i+1)=ys.drop (i+1)) by rw [HD.out,h1,h2];simp);clear h1 h2 hn1 hn2;go_wp2_with fail;go_region
      all_goals
       go_wp2_with fail;go_roundw
       case rel=>exact ⟨i+1,rfl,hlt,HE2.out,HB.out.trans (by go_grown)⟩
       case measure=>simp [intOf];omega
     ·rw [decide_eq_false h2] at hv;have HV:=Z (show decide (xs=ys)=false from decide_eq_false fun e=>h2 (Prod.mk.inj (HD.out.1 e).1).2);clear h1 h2 hn1 hn2;go_wp2_with fail;go_region
      all_goals
       go_wp2_with fail;go_ret;exact ⟨by rw [HV.out];rfl,HB.out.trans (by go_grown)⟩
    ·rw [decide_eq_false h1] at hk;have HV:=Z (show decide (xs=ys)=false from decide_eq_false fun e=>h1 (Prod.mk.inj (HD.out.1 e).1).1);clear h1 hn1 hn2;go_wp2_with fail;go_region
     all_goals
      go_wp2_with fail;go_ret;exact ⟨by rw [HV.out];rfl,HB.out.trans (by go_grown)⟩
   ·have HV:=Z (show decide (xs=ys)=true from decide_eq_true (HE.out.2 (by rw [Bx (by omega),Bx (by have:=HN.out;omega)])));obtain rfl:i=xs.length:=by omega
    clear hlt hi HE hn1 hn2;go_wp2_with fail;go_ret;exact ⟨by rw [HV.out];rfl,HB.out⟩
 ·have HV:=Z (show decide (xs=ys)=false from decide_eq_false fun e=>hn (by rw [e]));have hn2:¬ (xs.length:Int)=(ys.length:Int):=by omega
  have hn1:((xs.length:Int) == (ys.length:Int))=false:=beq_eq_false_iff_ne.2 hn2;have hn3:((xs.length:Int) != (ys.length:Int))=true:=bne_iff_ne.2 hn2;clear hn;go_wp2_with fail;go_ret;exact ⟨by rw [HV.out];rfl,Below.refl _ _⟩
end Go.Proofs.YtknioodagnjchaaGreatDoor
