/- cahierref16: Read, the way that answers true. cahierlaw16: shown: a shelf as the document's. cahierlaw16: right: a tree that is right by its pages. TreeBuilds: its walk. -/
import Derived.Test.YtknioodagnjchaaGreatDoorBGt
import Derived.Test.YtknioodagnjchaaGreatDoorBGp
import Derived.Test.YtknioodagnjchaaGreatDoorBGc
import Derived.Test.YtknioodagnjchaaGreatDoorBGm
import Derived.Test.YtknioodagnjchaaGreatDoorBGo
import Derived.Test.YtknioodagnjchaaGreatDoorBGn
import Derived.Deep.RegionHeld3
import Derived.Deep.Cut
import Derived.Deep.CutRange
set_option maxRecDepth 100000
set_option maxHeartbeats 8000000
namespace Go.Proofs.YtknioodagnjchaaGreatDoor
open List renaming length_append->Bt,append_nil->Bz,mem_cons_of_mem->BB,length_nil->BC,mem_cons_self->BD,length_singleton->BF,length->BI,sublist_append_left->BK,getElem_mem->BL,cons_append->BM,append_assoc->BP,length_cons->BQ
open And renaming intro->Bv
open Nat renaming le_refl->Bw,zero_le->BE,mul_le_mul_left->BO
open Go.IntWalk renaming i64_in->Bx,wrap64_in->BJ
open Go renaming World->BA,Value->BN,maxLen->BR
open Go.Proofs.Tryz renaming prog->BG
open Go.Proofs renaming intOf->BH
open Go.Lib renaming hid->Z
open Go.RowKit
theorem xx {a b:By}:((ap a).toList == (ap b).toList)=decide (a=b):=by rw [ay,ay];by_cases h:a=b <;> simp [h]
theorem pO {α:Type} {a b c:List α} (h:a=b ++ c):b.length<=a.length:=by rw [h,Bt];omega
theorem qu (d:Nat) (ih:∀ d',d=d'+1->yU d'):yU d:=by
 intro at_ n lo hv hi ps g root lev base b0 b1 m gu gb gn lv L s w0 w hRq hm hbw hgn hSn hbase hdn hN hroot hhi hpg hnd hnL hLl hpsl hlev hlev2;have HRQ:=Z hRq;have HBW:=Z hbw;have HSN:=Z hSn;have HIH:=Z ih;have HN:=Z hN;have HHI:=Z hhi;have HPG:=Z hpg;have HND:=Z hnd;have HNL:=Z hnL;have HRT:=Z hroot;have HLL:=Z hLl;have HPL:=Z hpsl;have HKY:=Z (uv hN);have hlen0:(s.B at_).length=232:=hRq.len at_;have HDN:=Z hdn;have hbe:bt s at_=0:=hpg at_ BD;have hgv:gQ s at_=s.B at_:=by unfold gQ;rw [if_pos hbe]
 have HRG:=Z (oc at_ b0 b1 m gu gb s w (hRq.below hbw) hm);have hgnb:=hSn.lt;rw [hgv,hbe] at HRG;clear hRq hbw hSn ih hN hhi hpg hnd hnL hroot hLl hpsl hdn hgv hbe;have hlv3:¬ (20:Int)<lev:=by omega
 have HLV:=Z (show decide ((20:Int)<lev)=false from decide_eq_false hlv3);go_enter Tryz.func100,Tryz.ntmps100;go_wp2_with fail;refine HRG.out.mono ?_;rintro e w2 ⟨rfl,hb2⟩;have HB2:=Z hb2;have hsz2:=hb2.size;clear hb2 HRG;go_wp2_with fail;refine (qz (s.B at_) hlen0 w2).mono ?_;rintro e w3 ⟨v,c,rfl,hd,hb3⟩;rw [HDN.out] at hd;have HB3:=Z (HB2.out.trans (hb3.mono hsz2));have hsz3:=hb3.size;clear hb3;obtain ⟨rfl,vk,vc,vd,rfl,h1,h2,h3,h4⟩:=hd;obtain ⟨hg,hl232,hfl⟩:=eu HDN.out;have HGD:=Z hg;have HBD:=Z ((pS HDN.out).2.bd (by decide));clear hg hl232 hfl h4;obtain ⟨A1,c1,rfl⟩:=Sl.zM (h1.sl aG);obtain ⟨A2,c2,rfl⟩:=Sl.zM (h2.sl bx);obtain ⟨A3,c3,rfl⟩:=Sl.zM (h3.sl ax);have HN2:=Z (show NdS w3 n (.slice A1 n.keys.length c1) (.slice A2 n.cells.length c2) (.slice A3 n.kids.length c3) from ⟨h1.sl aG,h2.sl bx,h3.sl ax⟩)
 have HFR:=Z (show ∀ k,((Value.slice A1 n.keys.length c1).ownBlock=some k\/(Value.slice A2 n.cells.length c2).ownBlock=some k\/(Value.slice A3 n.kids.length c3).ownBlock=some k)->w.heap.size<=k/\k<w3.heap.size from fun k hk=>by
  rcases hk with e | e | e
  ·have:=h1.lt k e;omega
  ·have:=h2.lt k e;omega
  ·have:=h3.lt k e;omega)
 clear h1 h2 h3;have HX4:=Z (ag (w0:=w3) (g:=w3.heap.size) (o:=ar n (.slice A1 n.keys.length c1) (.slice A2 n.cells.length c2) (.slice A3 n.kids.length c3)) rfl);have HB4:=Z (HB3.out.alloc (by omega) (ar n (.slice A1 n.keys.length c1) (.slice A2 n.cells.length c2) (.slice A3 n.kids.length c3)));have HN4:=Z (HN2.out.keep ((Below.refl _ w3).alloc (Bw _) (ar n (.slice A1 n.keys.length c1) (.slice A2 n.cells.length c2) (.slice A3 n.kids.length c3))));have hsz4:w3.heap.size<(w3.alloc (ar n (.slice A1 n.keys.length c1) (.slice A2 n.cells.length c2) (.slice A3 n.kids.length c3))).heap.size:=by simp
 go_upto_region 3 with fail
 generalize hw1:w3.alloc (.cells #[.bool n.leaf,.slice A1 n.keys.length c1,.slice A2 n.cells.length c2,.slice A3 n.kids.length c3] 110)=w4 at *;have hw2:w3.alloc (ar n (.slice A1 n.keys.length c1) (.slice A2 n.cells.length c2) (.slice A3 n.kids.length c3))=w4:=hw1;rw [hw2] at HX4 HB4 HN4 hsz4;clear hw1 hw2;obtain ⟨a0,a1,a2,a3,a4⟩:=aa HX4.out
 have HKP:=Z (show ∀ wr,Ch (fun k=>k<w.heap.size\/w4.heap.size<=k) w4 wr->wr.heap[w3.heap.size]?=some (ar n (.slice A1 n.keys.length c1) (.slice A2 n.cells.length c2) (.slice A3 n.kids.length c3))/\NdS wr n (.slice A1 n.keys.length c1) (.slice A2 n.cells.length c2) (.slice A3 n.kids.length c3) from fun wr hc=>by
  have hf:=HFR.out;have hn:=HN4.out;refine ⟨hc.keep HX4.out (by omega),de hn.k hc (fun k hk e=>?_),de hn.c hc (fun k hk e=>?_),de hn.d hc (fun k hk e=>?_)⟩
  ·have:=hf k (.inl hk);omega
  ·have:=hf k (.inr (.inl hk));omega
  ·have:=hf k (.inr (.inr hk));omega)
 have HS4:=Z (HSN.out.ch (S:=fun _=>False) (Ch.zK HB4.out) id fun _ _=>id);have hszw:w.heap.size<=w4.heap.size:=by omega
 have hLs:L.length<=100000:=by have:=HLL.out;omega
 have HADD:=Z (iS at_ base gn lv L w4 HS4.out hLs (by omega));have HNA:=Z (HNL.out at_ BD);go_cut [75] from 35 to 75 (fun c wc=>c=.bool false/\∃ lvi,RedI w w4 base gn L lv [] [at_] (.slice none 0 0) lvi wc)
 case first=>
  have key:∀ w5 lv1,SnIs base w5 gn lv1 (L ++ [at_])->(lv1.ownBlock=lv.ownBlock\/∀ k,lv1.ownBlock=some k->w4.heap.size<=k)->Ch (fun k=>k=gn\/lv.ownBlock=some k) w4 w5->RedI w w4 base gn L lv [] [at_] (.slice none 0 0) lv1 w5:=fun w5 lv1 h1 h2 h3=>by
   have h0:RedI w w4 base gn L lv [] [] (.slice none 0 0) lv w4:=⟨by rw [Bz];exact HS4.out,.inl rfl,Dis.nil,Own.nil,Ch.zK HB4.out,Ch.refl _ _⟩;exact h0.zO HSN.out hbase hszw h1 h2 h3
  have KEY:=Z key;clear key;cases hl:n.leaf
  ·rw [hl] at a0;go_wp2_with fail;refine HADD.out.mono ?_;rintro e w5 ⟨-,hy⟩;obtain ⟨rfl,⟨lv1,t1,t2⟩,t3⟩:=hy HNA.out;have HK5:=Z (KEY.out w5 lv1 t1 t2 t3);have b5:=(HKP.out w5 HK5.out.c2).1;clear t1 t2 t3 a0 a1 a2 a3 a4;obtain ⟨a0,a1,a2,a3,a4⟩:=aa b5;rw [hl] at a0;go_wp2_with fail;go_meet
   case rel=>exact ⟨by rw [HLV.out],lv1,HK5.out⟩
  ·rw [hl] at a0;by_cases hk0:n.keys.length=0
   ·have hk1:((n.keys.length:Int) == 0)=true:=by rw [hk0];rfl
    have hr:root=true:=by
     cases root with
     | true=>rfl
     | false=>
       exfalso;have h0:=HN.out;have hd0:=eK h0;rw [hl] at hd0;have hd0:d=0:=by simpa using hd0.symm
       subst hd0;have hk:=(bY h0.2.2.2.2).1;rw [List.length_eq_zero_iff.1 hk0] at hk;exact HRT.out rfl (by simpa using hk.symm)
    subst hr;go_wp2_with fail;refine HADD.out.mono ?_;rintro e w5 ⟨-,hy⟩;obtain ⟨rfl,⟨lv1,t1,t2⟩,t3⟩:=hy HNA.out;have HK5:=Z (KEY.out w5 lv1 t1 t2 t3);have b5:=(HKP.out w5 HK5.out.c2).1;clear t1 t2 t3 a0 a1 a2 a3 a4;obtain ⟨a0,a1,a2,a3,a4⟩:=aa b5;rw [hl] at a0;go_wp2_with fail;go_meet
    case rel=>exact ⟨by rw [HLV.out],lv1,HK5.out⟩
   ·have hk1:((n.keys.length:Int) == 0)=false:=by simpa using hk0
    go_wp2_with fail;refine HADD.out.mono ?_;rintro e w5 ⟨-,hy⟩;obtain ⟨rfl,⟨lv1,t1,t2⟩,t3⟩:=hy HNA.out;have HK5:=Z (KEY.out w5 lv1 t1 t2 t3);have b5:=(HKP.out w5 HK5.out.c2).1;clear t1 t2 t3 a0 a1 a2 a3 a4;obtain ⟨a0,a1,a2,a3,a4⟩:=aa b5;rw [hl] at a0;go_wp2_with fail;go_meet
    case rel=>exact ⟨by rw [HLV.out],lv1,HK5.out⟩
 case rest=>
  obtain ⟨rfl,lvi,hI⟩:=hcut;have HI:=Z hI;obtain ⟨b5,hn5⟩:=HKP.out wc hI.c2;have HN5:=Z hn5;have hsz5:=hI.le;clear a0 a1 a2 a3 a4 hI HADD HNA HX4 HN4 HN2 HS4 HB3 HB2 HDN hlen0;obtain ⟨a0,a1,a2,a3,a4⟩:=aa b5;clear b5 hn5;go_wp2_with fail;go_loopw [21] (fun iv wr=>∃ i:Nat,iv=.int .i64 i/\i<=n.keys.length/\wr=wc) (fun iv _=>n.keys.length - (BH iv).toNat)
  case atStart=>exact ⟨0,rfl,BE _,rfl⟩
  case round=>
   obtain ⟨i,rfl,hi,rfl⟩:=hrel;by_cases hlt:i<n.keys.length
   ·obtain ⟨b,off,rfl,hbl,-,c0⟩:=HN5.out.k.key hlt;have hi1:(i:Int)<(n.keys.length:Int):=by omega
    have hin:=HKY.out n.keys[i] (BL hlt);have hkb:=HBD.out.k;generalize n.keys[i]=k at *;obtain ⟨hin1,hin2⟩:=hin;have hls:Op.bytesLess (ap k).toList (ap lo).toList=false:=by rw [ay,ay];exact hin1
    rcases HHI.out with ⟨h1,rfl⟩ | ⟨h1,h2⟩
    ·have he:(ap []).toList=[]:=ay [];clear hin2 hin1 h1;go_wp2_with fail;go_roundw
     case rel=>exact ⟨i+1,by go_num,hlt,by trivial⟩
     case measure=>simp [BH];omega
    ·have hls2:Op.bytesLess (ap k).toList (ap hv).toList=true:=by rw [ay,ay];exact hin2 hv h1
     have hls3:Op.bytesLess (ap hv).toList (ap k).toList=false:=by rw [ay,ay];exact aL (hin2 hv h1)
     have he:((ap hv).toList == [])=false:=by rw [ay];simpa using h2
     have he2:¬ (ap hv).toList=[]:=by rw [ay];exact h2
     have he3:((ap k).toList == (ap hv).toList)=false:=by rw [xx];exact decide_eq_false (ir (hin2 hv h1))
     clear hin2 hin1 h1 h2;go_wp2_with fail;go_roundw
     case rel=>exact ⟨i+1,by go_num,hlt,by trivial⟩
     case measure=>simp [BH];omega
   ·obtain rfl:i=n.keys.length:=by omega
    clear hi;have hba:Below wr.heap.size wr (wr.alloc (.cells #[] 62)):=(Below.refl _ wr).alloc (Bw _) _;have HI6:=Z (show RedI w w4 base gn L lv [] [at_] (.slice (some ⟨wr.heap.size,0,none⟩) 0 0) lvi (wr.alloc (.cells #[] 62)) from
     ⟨HI.out.s.below hba,HI.out.at_,fun k hk hk2=>by
       have:=(HI.out.s.o.lt k hk2).2;simp [Value.ownBlock] at hk;omega,World.ownsRow_lit wr #[] 0 hsz5 (by simp [BR]) (by simp),HI.out.c1.alloc _,HI.out.c2.alloc _⟩)
    clear hba;go_upto_region 11 with fail
    generalize wr.alloc (.cells #[] 62)=w6 at *;obtain ⟨b6,hn6⟩:=HKP.out w6 HI6.out.c2;clear a0 a1 a2 a3 a4 HI HN5;obtain ⟨a0,a1,a2,a3,a4⟩:=aa b6;clear b6 hn6;have hd0:=eK HN.out;cases hl:n.leaf
    ·rw [hl] at a0 hd0;obtain ⟨d',rfl⟩:∃ d',d=d'+1:=by
      cases d with
      | zero=>simp at hd0
      | succ d'=>exact ⟨d',rfl⟩
     clear hd0;obtain ⟨i1,i2,i3,i4,i5,i6⟩:=aQ HGD.out hl;have HK3:=Z (Bv i2 i3);have HKO:=Z (node_succ.1 HN.out).2.2.2;have hkb:=HBD.out.k;have hdb:=HBD.out.d;clear i1 i2 i3 i4 i5 i6;go_wp2_with fail;obtain ⟨wo,hwo⟩:∃ wo:BA,wo=wr:=⟨_,rfl⟩;subst hwo;go_loopw [22,28,29] (fun pv dv iv wr=>∃ (i:Nat) (o2 r2:List Pr) (dg rg:List Int) (lvi:BN) (loi:By) (dn:Int),iv=.int .i64 i/\dv=.int .i64 dn/\i<=n.kids.length/\ps=o2 ++ r2/\g=dg ++ rg/\KidR (iD s.B d') n.keys hi n.kids i loi r2 rg/\((i=0/\dn=0/\loi=lo)\/(0<i/\dn=((d'+1:Nat):Int)/\∀ h:i - 1<n.keys.length,loi=n.keys[i - 1]))/\RedI w w4 base gn L lv o2 (at_ :: dg) pv lvi wr) (fun _ _ iv _=>n.kids.length - (BH iv).toNat)
     case atStart=>exact ⟨0,[],ps,[],g,lvi,lo,0,rfl,rfl,BE _,rfl,rfl,KidR.start HKO.out,.inl ⟨rfl,rfl,rfl⟩,HI6.out⟩
     case round=>
      clear HI6;obtain ⟨i,o2,r2,dg,rg,lvj,loi,dn,rfl,rfl,hi,e1,e2,hk,hc,hI⟩:=hrel;have HI:=Z hI;have HK:=Z hk;have HC:=Z hc;have HE:=Z (Bv e1 e2);obtain ⟨b7,hn7⟩:=HKP.out wr hI.c2;have HN7:=Z hn7;have hszr:=hI.le;obtain ⟨Ap,cp,rfl⟩:=Sl.zM (hI.o.sl aV);have HOL:=Z (show o2.length<=10000 by have:=pO e1;have:=HPL.out;omega);clear a0 a1 a2 a3 a4 hI hk hc e1 e2 hn7;obtain ⟨a0,a1,a2,a3,a4⟩:=aa b7;clear b7;rw [hl] at a0;by_cases hlt:i<n.kids.length
      ·obtain ⟨p1,p2,g1,g2,hi1,lo1,rfl,rfl,hsub,hk2,hb⟩:=HK.out.step HK3.out.2 hlt;obtain ⟨hv1,hhv⟩:∃ hv1,HiV hi1 hv1/\(∀ h:i<n.keys.length,hv1=n.keys[i])/\(n.keys.length<=i->hv1=hv):=by
        rcases hb with ⟨hh,rfl,rfl⟩ | ⟨hh,rfl⟩
        ·exact ⟨n.keys[i],.inr ⟨rfl,zi hsub⟩,fun _=>rfl,fun h=>by omega⟩
        ·exact ⟨hv,HHI.out,fun h=>by omega,fun _=>rfl⟩
       have HV:=Z hhv;have HK2:=Z hk2
       have HL1:=Z (show ∀ h:i+1 - 1<n.keys.length,lo1=n.keys[i+1 - 1] from fun h=>by
        rcases hb with ⟨hh,_,e⟩ | ⟨hh,_⟩
        ·exact e
        ·omega)
       obtain ⟨hp1,mm,g1',hm1,rfl,hm2⟩:=hsub;have HM:=Z (Bv hp1 (Bv hm1 hm2));have hk0:0<n.keys.length:=List.length_pos_iff.2 HK3.out.1;have hil:i<=n.keys.length:=by have:=HK3.out.2;omega
       have HNE:=Z (show i=0->hv1≠[] from fun h=>by
        rcases HV.out.1 with ⟨h1,_⟩ | ⟨_,h2⟩
        ·exfalso;rcases hb with ⟨hh,h3,_⟩ | ⟨hh,_⟩
         ·rw [h3] at h1;cases h1
         ·omega
        ·exact h2)
       clear hhv hk2 hb hp1 hm1 hm2;have hilt:(i:Int)<(n.kids.length:Int):=by omega
       go_upto_if 160 with fail
       go_cut [30] from 157 to 166 (fun f wx=>f=.string (ap loi)/\wr=wx)
       case first=>
        rcases HC.out with ⟨rfl,rfl,rfl⟩ | ⟨h1,rfl,h3⟩
        ·go_wp2_with fail;go_meet
         case rel=>exact ⟨rfl,rfl⟩
        ·have hj:i - 1<n.keys.length:=by omega
         obtain ⟨b,off,rfl,hbl,-,c0⟩:=HN7.out.k.key hj;rw [<- h3 hj] at c0;have hw1:IntKind.i64.wrap ((i:Int) - 1)=((i - 1:Nat):Int):=by rw [Bx _ (by omega)];omega
         have hj1:((i - 1:Nat):Int)<(n.keys.length:Int):=by omega
         have hi0:(0:Int)<(i:Int):=by omega
         generalize i - 1=j at *;clear h3 h1;go_wp2_with fail;go_meet
         case rel=>exact ⟨rfl,rfl⟩
       case rest=>
       obtain ⟨rfl,rfl⟩:=hcut;go_upto_if 171 with fail
       go_cut [31] from 167 to 176 (fun t wx=>t=.string (ap hv1)/\wr=wx)
       case first=>
        by_cases hik:i<n.keys.length
        ·have hik1:(i:Int)<(n.keys.length:Int):=by omega
         obtain ⟨b,off,rfl,hbl,-,c0⟩:=HN7.out.k.key hik;rw [<- HV.out.2.1 hik] at c0;go_wp2_with fail;go_meet
         case rel=>exact ⟨rfl,rfl⟩
        ·have hik1:¬ (i:Int)<(n.keys.length:Int):=by omega
         have hvv:=HV.out.2.2 (by omega);go_wp2_with fail;go_meet
         case rel=>exact ⟨by rw [hvv],rfl⟩
       case rest=>
       obtain ⟨rfl,rfl⟩:=hcut;go_upto_region 35 with fail
       go_cut [182] from 177 to 182 (fun c wx=>c=.bool false/\wr=wx)
       case first=>
        by_cases hz:i=0
        ·subst hz;have hne:=HNE.out rfl;have he:((ap hv1).toList == [])=false:=by rw [ay];simpa using hne
         have he2:¬ (ap hv1).toList=[]:=by rw [ay];exact hne
         clear hne;go_wp2_with fail;go_meet
         case rel=>exact ⟨by first | rfl | rw [he],rfl⟩
        ·have hi2:((i:Int) == 0)=false:=by simpa using hz
         go_wp2_with fail;go_meet
         case rel=>exact ⟨by first | rfl | rw [hi2],rfl⟩
       case rest=>
        obtain ⟨rfl,rfl⟩:=hcut;obtain ⟨b3,off3,rfl,hbl3,c3⟩:=HN7.out.d.int hlt;have hlw:IntKind.i64.wrap (lev+1)=lev+1:=Bx _ (by omega);have HGE:=Z (show ∀ q ∈ n.kids[i] :: g1',q ∈ at_ :: g from fun q hq=>BB _ (by rw [HE.out.2];exact List.mem_append_right _ (List.mem_append_left _ hq)));have HNDS:=Z (show (at_ :: dg ++ n.kids[i] :: g1').Nodup by
         have hn:=HND.out;rw [HE.out.2] at hn;refine hn.sublist ?_;rw [BM];exact (List.Sublist.append_left (BK _ _) dg).cons_cons _)
        have HCALL:=Z (HIH.out d' rfl n.kids[i] mm loi hv1 hi1 p1 g1' false (lev+1) base b0 b1 m gu gb gn lvj (L ++ at_ :: dg) s w0 wr HRQ.out hm
         (HBW.out.trans (HI.out.c1.below HBW.out.size (fun k hk=>by
           rcases hk with e | e
           ·omega
           ·have:=(HSN.out.o.lt k e).1;omega))) hgn HI.out.s (by omega) HM.out.2.1 HM.out.2.2 (fun _=>HM.out.1) HV.out.1 (fun q hq=>HPG.out q (HGE.out q hq)) ((List.nodup_append.1 HNDS.out).2.1)
         (fun q hq h=>by
           rcases List.mem_append.1 h with h | h
           ·exact HNL.out q (HGE.out q hq) h
           ·exact (List.nodup_append.1 HNDS.out).2.2 q h q hq rfl)
         (by
           have:=HLL.out;have e:=congrArg BI HE.out.2;simp only [Bt,BQ] at *;omega)
         (by
           have:=HPL.out;have e:=congrArg BI HE.out.1;simp only [Bt] at *;omega) (by omega) (by omega))
        have HPL1:=Z (show o2.length+p1.length<=10000 by
         have:=HPL.out;have e:=congrArg BI HE.out.1;simp only [Bt] at *;omega)
        generalize n.kids[i]=kd at *;go_wp2_with fail;refine HCALL.out.mono ?_;rintro e w8 ⟨pv8,lv8,rfl,t1,t2,t3,t4,t5⟩;have HI8:=Z (HI.out.zO HSN.out hbase hszw (g:=kd :: g1') (by simpa using t2) t3 t5);have HT1:=Z t1;obtain ⟨A8,c8,rfl⟩:=Sl.zM (t1.sl aV);have hsz8:=t5.size;obtain ⟨b8,-⟩:=HKP.out w8 HI8.out.c2;clear a0 a1 a2 a3 a4 t1 t2 t3 t4 t5 HCALL c3;obtain ⟨a0,a1,a2,a3,a4⟩:=aa b8;clear b8;rw [hl] at a0;have hdd:(d':Int)<=20:=by omega
        go_upto_region 38 with fail
        go_cut [209] from 199 to 209 (fun c wx=>c=.bool false/\w8=wx)
        case first=>
         rcases HC.out with ⟨-,rfl,-⟩ | ⟨-,rfl,-⟩
         ·go_wp2_with fail;go_meet
          case rel=>exact ⟨rfl,rfl⟩
         ·have hd3:(0:Int)<((d'+1:Nat):Int):=by omega
          have hd4:(((d'+1:Nat):Int) != ((d'+1:Nat):Int))=false:=by simp
          go_wp2_with fail;go_meet
          case rel=>exact ⟨by first | rfl | simp,rfl⟩
        case rest=>
         obtain ⟨rfl,rfl⟩:=hcut;go_wp2_with (at_builtin;refine Hid.out ?_);refine Z ?_;refine al (base:=w4.heap.size) rfl rfl nR rfl rfl HI8.out.o (HT1.out.sl aV) (by have:=HPL1.out;simp [BR];omega) (by have:=HPL1.out;omega) (by omega) ?_;intro v9 w9 ho hg hat;have HI9:=Z (HI8.out.push hszw ho hg hat HSN.out hbase);obtain ⟨A9,c9,rfl⟩:=Sl.zM (ho.sl aV);obtain ⟨b9,-⟩:=HKP.out w9 HI9.out.c2;have hi9:=HI9.out;rw [Bt] at hi9;have HJ9:=Z hi9;clear hi9;clear a0 a1 a2 a3 a4 ho hg hat;obtain ⟨a0,a1,a2,a3,a4⟩:=aa b9;clear b9;rw [hl] at a0;go_wp2_with fail;go_roundw
         case rel=>exact ⟨i+1,o2 ++ p1,p2,dg ++ kd :: g1',g2,lv8,lo1,((d'+1:Nat):Int),by go_num,rfl,hlt,by rw [HE.out.1];simp,by rw [HE.out.2];simp,HK2.out,.inr ⟨by omega,rfl,HL1.out⟩,HJ9.out⟩
         case measure=>simp [BH];omega
      ·obtain rfl:i=n.kids.length:=by omega
       obtain ⟨rfl,rfl⟩:=HK.out.done (Bw _);have hps:=HE.out;rw [Bz,Bz] at hps;obtain ⟨rfl,rfl⟩:=hps;have hdd:(d':Int)<=20:=by omega
       obtain rfl:dn=((d'+1:Nat):Int):=by
        rcases HC.out with ⟨h,_,_⟩ | ⟨_,h,_⟩
        ·have:=HK3.out.2;omega
        ·exact h
       have hdw:IntKind.i64.wrap (((d'+1:Nat):Int)+1)=((d'+1+1:Nat):Int):=by rw [Bx _ (by omega)];rfl
       clear hi;go_wp2_with fail;go_ret3;exact ⟨_,lvj,by go_num,HI.out.o.base hszw,HI.out.s,HI.out.at_.imp id (fun e k hk=>by have:=e k hk;omega),HI.out.dis,HI.out.c1⟩
    ·rw [hl] at a0 hd0;have hd1:d=0:=by simpa using hd0.symm
     clear hd0;subst hd1;have HCL:=Z (cD HGD.out hl).2.1;have hkb:=HBD.out.k;go_wp2_with fail;obtain ⟨wo,hwo⟩:∃ wo:BA,wo=wr:=⟨_,rfl⟩;subst hwo;go_loopw [22,23] (fun pv iv wr=>∃ (i:Nat) (o2 r2:List Pr) (dg rg:List Int) (lvi:BN),iv=.int .i64 i/\i<=n.keys.length/\ps=o2 ++ r2/\g=dg ++ rg/\cY s.B (n.keys.drop i) (n.cells.drop i) r2 rg/\RedI w w4 base gn L lv o2 (at_ :: dg) pv lvi wr) (fun _ iv _=>n.keys.length - (BH iv).toNat)
     case atStart=>exact ⟨0,[],ps,[],g,lvi,rfl,BE _,rfl,rfl,HN.out.2.2.2.2,HI6.out⟩
     case round=>
      clear HI6;obtain ⟨i,o2,r2,dg,rg,lvj,rfl,hi,e1,e2,hc,hI⟩:=hrel;have HI:=Z hI;have HC:=Z hc;have HE:=Z (Bv e1 e2);obtain ⟨b7,hn7⟩:=HKP.out wr hI.c2;have HN7:=Z hn7;have hszr:=hI.le;obtain ⟨Ap,cp,rfl⟩:=Sl.zM (hI.o.sl aV);clear a0 a1 a2 a3 a4 hI hc e1 e2 hn7;obtain ⟨a0,a1,a2,a3,a4⟩:=aa b7;clear b7;rw [hl] at a0;by_cases hlt:i<n.keys.length
      ·have hltc:i<n.cells.length:=by have:=HCL.out;omega
       obtain ⟨v,g1,p2,g2,rfl,rfl,hcel,hc2⟩:=uW HC.out HCL.out hlt;have HC2:=Z hc2;obtain ⟨b,off,he,hbl,-,c0⟩:=HN7.out.k.key hlt;subst he;obtain ⟨b2,off2,he,hbl2,-,e0,e1,e2⟩:=HN7.out.c.zT hltc;subst he;have hi1:(i:Int)<(n.keys.length:Int):=by omega
       have hi2:(i:Int)<(n.cells.length:Int):=by omega
       have HWT:=Z (hcel.here HRQ.out.left fun q hq=>HPG.out q (BB _ (by rw [HE.out.2];simp [hq])));have HGL:=Z (show g1.length<=10000 by have:=pO HE.out.2;have:=congrArg BI HE.out.2;have:=HLL.out;simp at *;omega);clear hcel hc2;obtain ⟨ce,hce⟩:∃ ce,n.cells[i]=ce:=⟨_,rfl⟩;obtain ⟨ky,hky⟩:∃ ky,n.keys[i]=ky:=⟨_,rfl⟩;rw [hce] at e0 e1 e2 HWT;rw [hky] at c0 HE;have HKE:=Z hky;clear hce hky
       have HCV:=Z (rX ce b0 b1 m gu gb s wr (HRQ.out.below (HBW.out.trans (HI.out.c1.below HBW.out.size (fun k hk=>by
        rcases hk with e | e
        ·omega
        ·have:=(HSN.out.o.lt k e).1;omega)))) hm)
       rw [HWT.out] at HCV;go_wp2_with fail;refine HCV.out.mono ?_;rintro e w7 ⟨⟨vl,rfl,ho⟩,hb7⟩;have HO7:=Z ho;have HI7:=Z (HI.out.below hb7);have hsz7:=hb7.size;obtain ⟨Av,cv,rfl⟩:=Sl.zM (ho.sl ax);clear ho hb7 HCV;obtain ⟨b7,hn7⟩:=HKP.out w7 HI7.out.c2;clear a0 a1 a2 a3 a4 c0 e0 e1 e2 hn7 hbl hbl2;obtain ⟨a0,a1,a2,a3,a4⟩:=aa b7;clear b7;rw [hl] at a0;go_wp2_with fail;obtain ⟨wo,hwo⟩:∃ wo:BA,wo=wr:=⟨_,rfl⟩;subst hwo;go_loopw [27] (fun kv wr=>∃ (k:Nat) (lvk:BN),kv=.int .i64 k/\k<=g1.length/\RedI w w4 base gn L lv o2 (at_ :: dg ++ g1.take k) (.slice Ap o2.length cp) lvk wr/\Ch (fun x=>x<wo.heap.size\/w7.heap.size<=x) w7 wr/\(∀ x,lvk.ownBlock=some x->x<wo.heap.size\/w7.heap.size<=x)) (fun kv _=>g1.length - (BH kv).toNat)
       case atStart=>exact ⟨0,lvj,rfl,BE _,by simpa using HI7.out,Ch.refl _ _,fun x hx=>.inl (HI.out.s.o.lt x hx).2⟩
       case round=>
        obtain ⟨k,lvk,rfl,hk,hI,hc3,hl3⟩:=hrel;have HIK:=Z hI;have HC3:=Z hc3;have HL3:=Z hl3;have hszk:=hc3.size;have HVL:=Z (show Sl iC 1 wr (.slice Av g1.length cv) g1 from de (HO7.out.sl ax) hc3 fun x hx e=>by have:=HO7.out.lt x hx;omega);obtain ⟨b7,hn7⟩:=HKP.out wr hI.c2;have HN8:=Z hn7;clear a0 a1 a2 a3 a4 hI hc3 hl3 hn7;obtain ⟨a0,a1,a2,a3,a4⟩:=aa b7;clear b7;rw [hl] at a0;by_cases hkl:k<g1.length
        ·obtain ⟨b3,off3,rfl,hbl3,c3⟩:=HVL.out.int hkl;have hk1:(k:Int)<(g1.length:Int):=by omega
         have hgk:=HGL.out;have HGK:=Z (show g1.take (k+1)=g1.take k ++ [g1[k]] from List.take_succ_eq_append_getElem hkl);have hnin:g1[k] ∉ L ++ (at_ :: dg ++ g1.take k):=by
          have hmem:g1[k] ∈ g:=by rw [HE.out.2];simp
          intro h;rcases List.mem_append.1 h with h | h
          ·exact HNL.out _ (BB _ hmem) h
          ·have hn:=HND.out;rw [HE.out.2] at hn;have hs:(at_ :: dg ++ g1.take k ++ [g1[k]]).Sublist (at_ :: (dg ++ (g1 ++ g2))):=by rw [BP,<- HGK.out,BM];exact (List.Sublist.append_left ((List.take_sublist _ _).trans (BK _ _)) dg).cons_cons _
           have:=hn.sublist hs;rw [List.nodup_append] at this;exact this.2.2 _ h _ (List.mem_singleton.2 rfl) rfl
         have hlen:(L ++ (at_ :: dg ++ g1.take k)).length<=100000:=by have:=HLL.out;have e:=congrArg BI HE.out.2;simp only [Bt,BQ,List.length_take] at *;omega
         have HAD:=Z (iS g1[k] base gn lvk _ wr HIK.out.s hlen (by omega));have HNI:=Z hnin;clear hnin hlen;obtain ⟨q,hq⟩:∃ q,g1[k]=q:=⟨_,rfl⟩;rw [hq] at c3 HAD HGK HNI;clear hq;go_wp2_with fail;refine HAD.out.mono ?_;rintro e w8 ⟨-,hy⟩;obtain ⟨rfl,⟨lv8,t1,t2⟩,t3⟩:=hy HNI.out;have HI8:=Z (HIK.out.zO HSN.out hbase hszw (g:=[q]) (by simpa using t1) t2 t3);rw [BP,<- HGK.out] at HI8
         have HC8:=Z (show Ch (fun x=>x<wo.heap.size\/w7.heap.size<=x) w7 w8 from HC3.out.then t3 fun x e=>.inl (by
          rcases e with e | e
          ·left;omega
          ·exact HL3.out x e))
         have HL8:=Z (show ∀ x,lv8.ownBlock=some x->x<wo.heap.size\/w7.heap.size<=x from fun x hx=>by
          rcases t2 with e | e
          ·exact HL3.out x (e ▸ hx)
          ·have:=e x hx;exact .inr (by omega))
         obtain ⟨b7,-⟩:=HKP.out w8 HI8.out.c2;clear a0 a1 a2 a3 a4 t1 t2 t3;obtain ⟨a0,a1,a2,a3,a4⟩:=aa b7;clear b7;rw [hl] at a0;go_wp2_with fail;go_roundw
         case rel=>exact ⟨k+1,lv8,by go_num,hkl,HI8.out,HC8.out,HL8.out⟩
         case measure=>simp [BH];omega
        ·obtain rfl:k=g1.length:=by omega
         obtain ⟨b,off,he,hbl,-,c0⟩:=HN8.out.k.key hlt;injection he with he
         injection he with q1 q2
         subst q1 q2;rw [HKE.out] at c0;have HK9:=HIK.out;rw [List.take_length,BM] at HK9;have HI9:=Z (HK9.below ((Below.refl _ wr).alloc (Bw _) (.cells #[.string (ap ky),.string (ap v)] 62)));have hol:o2.length<=10000:=by have:=pO HE.out.1;have:=HPL.out;omega
         clear HK9 hkl;go_wp2_with (at_builtin;refine Hid.out ?_);refine Z ?_;refine al (base:=w4.heap.size) rfl rfl nR rfl rfl HI9.out.o (Sl.one ((ky,v):Pr) (by simp) aV rfl) (by simp [BR];omega) (by simp;omega) (by simp;omega) ?_;intro v9 w9 ho hg hat;have HI10:=Z (HI9.out.push hszw ho hg hat HSN.out hbase);obtain ⟨A9,c9,rfl⟩:=Sl.zM (ho.sl aV);obtain ⟨b9,-⟩:=HKP.out w9 HI10.out.c2;have hi9:=HI10.out;rw [Bt,BF] at hi9;have HJ10:=Z hi9;clear hi9;clear a0 a1 a2 a3 a4 ho hg hat c0;obtain ⟨a0,a1,a2,a3,a4⟩:=aa b9;clear b9;rw [hl] at a0;go_wp2_with fail;go_roundw
         case rel=>exact ⟨i+1,o2 ++ [(ky,v)],p2,dg ++ g1,g2,lvk,by go_num,hlt,by rw [HE.out.1];simp,by rw [HE.out.2];simp,HC2.out,HJ10.out⟩
         case measure=>simp [BH];omega
      ·obtain rfl:i=n.keys.length:=by omega
       obtain ⟨rfl,rfl⟩:=uX HC.out HCL.out (Bw _);have hps:=HE.out;rw [Bz,Bz] at hps;obtain ⟨rfl,rfl⟩:=hps;go_wp2_with fail;go_ret3;exact ⟨_,lvj,rfl,HI.out.o.base hszw,HI.out.s,HI.out.at_.imp id (fun e k hk=>by have:=e k hk;omega),HI.out.dis,HI.out.c1⟩
theorem tg:∀ d,yU d
 | 0=>qu 0 fun d' h=>by omega
 | d+1=>qu (d+1) fun d' h=>by
   have:d=d':=by omega
   subst this;exact tg d
theorem rU (n:Int) (w:BA) (h1:1<=n) (h2:n<=4096):
  Calls BG 16 #[.int .i64 n] w fun e w'=>∃ gu gb,e=.returned (.pointer (some ⟨gu,0,none⟩))/\w'.heap[gu]?=some (yB (dA n) gb)/\w'.heap[gb]?=some (.cells #[.slice none 0 0,.slice none 0 0] 96 (0,0))/\gb≠gu/\w.heap.size<=gb/\w.heap.size<=gu/\Below w.heap.size w w':=by
 have HL:=Z (show yF n=n by unfold yF;omega);go_enter Tryz.func16,Tryz.ntmps16;go_wp2_with fail;refine (rV w).mono ?_;rintro e w1 ⟨rfl,hb⟩;have HB:=Z hb;have HSZ:=Z hb.size;clear hb;go_wp2_with fail;go_ret;have hs:=HSZ.out;have hb1:Below w.heap.size w (w1.alloc (.cells #[.slice none 0 0,.slice none 0 0] 96 (0,0))):=HB.out.alloc hs _;refine ⟨_,w1.heap.size,rfl,?_,am (ag rfl) _,by first | omega | simp,by first | omega | simp,by first | omega | (simp;omega),hb1.alloc (by simp;omega) _⟩;rw [show dA n=⟨n,freshH,fun _=>blankL,-1⟩ by unfold dA;rw [HL.out]];exact ag (by simp)
theorem xA {w:BA} {gu gb:Nat} {u:Sf} (h:w.heap[gu]?=some (yB u gb)) (x:Hd):
  ((((((w.setCell ⟨gu,1,none⟩ (.int .i64 x.mode)).setCell ⟨gu,2,none⟩ (.int .i64 x.pages)).setCell ⟨gu,3,none⟩ (.int .i64 x.trunk)).setCell ⟨gu,4,none⟩ (.int .i64 x.spare)).setCell ⟨gu,5,none⟩ (.int .i64 x.root)).setCell ⟨gu,6,none⟩ (.int .u64 x.change)).heap[gu]?=some (yB { u with h:=x } gb):=
 ai (ai (ai (ai (ai (ai h 1 _) 2 _) 3 _) 4 _) 5 _) 6 _
theorem rT (w:BA) (gu:Nat) (x:Hd):Ch (fun k=>k=gu) w ((((((w.setCell ⟨gu,1,none⟩ (.int .i64 x.mode)).setCell ⟨gu,2,none⟩ (.int .i64 x.pages)).setCell ⟨gu,3,none⟩ (.int .i64 x.trunk)).setCell ⟨gu,4,none⟩ (.int .i64 x.spare)).setCell ⟨gu,5,none⟩ (.int .i64 x.root)).setCell ⟨gu,6,none⟩ (.int .u64 x.change)):=
 ((((((Ch.refl (fun k=>k=gu) w).setCell (p:=⟨gu,1,none⟩) rfl _).setCell (p:=⟨gu,2,none⟩) rfl _).setCell (p:=⟨gu,3,none⟩) rfl _).setCell (p:=⟨gu,4,none⟩) rfl _).setCell (p:=⟨gu,5,none⟩) rfl _).setCell (p:=⟨gu,6,none⟩) rfl _
structure ShwI (w:BA) (gs gm gu gb gh b1:Nat) (s u:Sf) (i:Nat) (wr:BA):Prop where
 rq:RqIs w.heap.size b1 i wr gu gb u
 hd:wr.heap[gh]?=some (eo s.h)
 sh:ShIs wr gs gm s
 c:Ch (fun k=>k=gs) w wr
 same:∀ n:Int,1<=n->n<=(i:Int)->u.B n=s.B n
theorem ua (gs gm:Nat) (s:Sf) (w:BA) (hS:ShIs w gs gm s) (hl:s.left=-1) (hp1:1<=s.h.pages) (hp2:s.h.pages<=4096):
  Calls BG 99 #[.pointer (some ⟨gs,0,none⟩)] w fun e w'=>∃ gu gb b1 m u,e=.returned (.pointer (some ⟨gu,0,none⟩))/\RqIs w.heap.size b1 m w' gu gb u/\m<=1000000/\u.h=s.h/\(∀ n:Int,1<=n->n<s.h.pages->u.B n=s.B n)/\ShIs w' gs gm s/\Ch (fun k=>k=gs) w w':=by
 have HS:=Z hS;have HL:=Z hl;have HLEN:=Z hS.ok.l;have hgs:=aj hS.blk;have hgm:=hS.book.lt;clear hS hl;go_enter Tryz.func99,Tryz.ntmps99;go_wp2_with fail;refine (rU 4096 w (by decide) (by decide)).mono ?_;rintro e w1 ⟨gu,gb,rfl,h1,h2,h3,h4,h5,hb⟩;have HU:=Z h1;have HG:=Z h2;have HX:=Z (Bv h3 (Bv h4 h5));have HB1:=Z hb;have hsz1:=hb.size;have HS1:=Z (HS.out.ch (S:=fun _=>False) (Ch.zK hb) id id);clear h1 h2 h3 h4 h5 hb;go_wp2_with fail;refine (gV gs gm s w1 HS1.out).mono ?_;rintro e w2 ⟨rfl,hb⟩;have hsz2:=hb.size;have HB3:=Z (hb.alloc (Nat.le_trans (Bw _) hb.size) (eo s.h));have HH3:=Z (ag (w0:=w2) (g:=w2.heap.size) (o:=eo s.h) rfl);have hgu:=aj HU.out;have hgb:=aj HG.out;clear hb;go_upto_region 3 with fail
 generalize hw:w2.alloc (.cells #[.int .i64 s.h.mode,.int .i64 s.h.pages,.int .i64 s.h.trunk,.int .i64 s.h.spare,.int .i64 s.h.root,.int .u64 s.h.change] 51)=w3 at *;have hw2:w2.alloc (eo s.h)=w3:=hw;rw [hw2] at HB3 HH3;clear hw hw2;have hsz3:=aj HH3.out;have HI:=Z (show ShwI w gs gm gu gb w2.heap.size w3.heap.size s (dA 4096) 0 w3 from
  ⟨⟨af HU.out HB3.out,⟨[],[],.slice none 0 0,.slice none 0 0,⟨af HG.out HB3.out,Own.nil,Own.nil,Dis.nil,rfl,by omega⟩,rfl,Bw _⟩,HX.out.1,by omega,Bw _,HX.out.2.2,HX.out.2.1,rfl,fun _=>dP⟩,
    HH3.out,HS1.out.ch (S:=fun _=>False) (Ch.zK HB3.out) id id,Ch.zK (HB1.out.trans (HB3.out.mono hsz1)),fun n h1 h2=>by omega⟩)
 have hx1:=HX.out.2.1;have hx2:=HX.out.2.2;clear HU HG HX HB1 HS1 HB3 HH3;generalize w2.heap.size=gh at *;generalize hb1:w3.heap.size=b1 at *;go_wp2_with fail;go_loopw [5] (fun iv wr=>∃ (i:Nat) (u:Sf),iv=.int .i64 ((i+1:Nat):Int)/\(i:Int)+1<=s.h.pages/\ShwI w gs gm gu gb gh b1 s u i wr) (fun iv _=>4096 - (BH iv).toNat)
 case atStart=>exact ⟨0,dA 4096,rfl,by omega,HI.out⟩
 case round=>
  clear HI;obtain ⟨i,u,rfl,hi,hI⟩:=hrel;have HI:=Z hI;have hgu':=hI.rq.lt;have hle':=hI.rq.le;obtain ⟨k0,k1,k2,k3,k4,k5,k6⟩:=aA hI.hd;clear hI;by_cases hlt:(i:Int)+1<s.h.pages
  ·have hlt1:((i+1:Nat):Int)<s.h.pages:=by omega
   have hbe:bt s ((i+1:Nat):Int)=0:=by unfold bt;rw [if_neg (by have:=HL.out;omega),if_neg (by omega)]
   have hgv:gQ s ((i+1:Nat):Int)=s.B ((i+1:Nat):Int):=by unfold gQ;rw [if_pos hbe]
   have HGT:=Z (mD ((i+1:Nat):Int) gs gm s wr HI.out.sh);rw [hgv,hbe,(nE HL.out 0).1] at HGT;clear hbe hgv;have hlen:=HLEN.out ((i+1:Nat):Int);have HPG:=Z (show ∀ n:Int,n<=((i+1:Nat):Int)->n<=(i:Int)\/n=((i+1:Nat):Int) from fun n h=>by omega);have hwi:IntKind.i64.wrap (((i+1:Nat):Int)+1)=((i+1+1:Nat):Int):=by rw [Bx _ (by omega)];omega
   have hil:i<=4096:=by omega
   have HBN:=Z (show s.B ((i+1:Nat):Int)=s.B ((i+1:Nat):Int) from rfl);go_wp2_with fail;refine HGT.out.mono ?_;rintro e w4 ⟨rfl,hs,hc⟩;have HS4:=Z hs;have HR4:=Z (HI.out.rq.ch hc (fun k hk=>by omega) HI.out.rq.Bq);have HD4:=Z (hc.keep HI.out.hd (by omega));have HC4:=Z (HI.out.c.trans hc);obtain ⟨ns,ds,vn,vd,hbk,hbe,hns⟩:=HR4.out.book;have HBK:=Z (Bv hbk (Bv hbe hns));obtain ⟨a0,a1,a2,a3,a4,a5,a6,a7,a8,a9⟩:=iU HR4.out.blk;have HPT:=Z (xe ((i+1:Nat):Int) (s.B ((i+1:Nat):Int)) b1 gb ns ds vn vd w4 hbk (by omega) HR4.out.le);clear hs hc hbk hbe hns k0 k1 k2 k3 k4 k5 k6;go_wp2_with fail;refine HPT.out.mono ?_;rintro e w5 ⟨⟨r,rfl⟩,hbk,hc⟩;have hghb:gh<b1:=by omega
   have HR5:=Z (HR4.out.put hlen (show ∃ ns' ds' vn' vd',RbO b1 w5 gb ns' ds' vn' vd'/\pZ ns' ds'=bN u.B ((i+1:Nat):Int) (s.B ((i+1:Nat):Int))/\ns'.length<=i+1 by obtain ⟨n1,d1,v1,v2,t1,t2,t3⟩:=hbk;exact ⟨n1,d1,v1,v2,t1,by rw [t2,<- HBK.out.2.1],by have:=HBK.out.2.2;omega⟩) (HR4.out.far hc) hc.size);have HI5:=Z (show ShwI w gs gm gu gb gh b1 s (th u ((i+1:Nat):Int) (s.B ((i+1:Nat):Int))) (i+1) w5 from
    ⟨HR5.out,hc.keep HD4.out (by omega),HS4.out.ch hc (by omega) (by omega),HC4.out.then hc (fun k hk=>by omega),fun n h1 h2=>by
      unfold th;rcases HPG.out n h2 with h | h
      ·show bN u.B _ _ n=_;rw [aZ _ _ (by omega)];exact HI.out.same n h1 h
      ·subst h;exact dD _ _ _⟩)
   obtain ⟨k0,k1,k2,k3,k4,k5,k6⟩:=aA HI5.out.hd;clear hbk hc a0 a1 a2 a3 a4 a5 a6 a7 a8 a9 HR5 HBK HPT HGT;go_wp2_with fail;go_roundw
   case rel=>exact ⟨i+1,_,by go_num,by omega,HI5.out⟩
   case measure=>simp [BH];omega
  ·have hlt1:¬ ((i+1:Nat):Int)<s.h.pages:=by omega
   obtain ⟨a0,a1,a2,a3,a4,a5,a6,a7,a8,a9⟩:=iU HI.out.rq.blk;have fr:=ab HI.out.rq.blk;have hne:=HI.out.rq.ne;have hgbb:=HI.out.rq.b0b;go_wp2_with fail;go_ret;have hset:=xA HI.out.rq.blk s.h;have hch:=rT wr gu s.h;obtain ⟨ns,ds,vn,vd,hbk,hbe,hns⟩:=HI.out.rq.book;refine ⟨gu,rfl,gb,b1,i,{ u with h:=s.h },⟨hset,⟨ns,ds,vn,vd,hbk.ch hch hne (fun k hk _ e=>by omega),hbe,hns⟩,hne,hgu',Nat.le_trans hle' hch.size,HI.out.rq.b0u,hgbb,HI.out.rq.left,HI.out.rq.len⟩,by omega,rfl,fun n h1 h2=>HI.out.same n h1 (by omega),HI.out.sh.ch hch (by omega) (by omega),HI.out.c.then hch (fun k hk=>by omega)⟩
theorem og (root:Int) (ps:List Pr) (pv:BN) (gs gm:Nat) (s:Sf) (w:BA) (hS:ShIs w gs gm s) (ht:TS s root ps []) (hwt:wt ps+60<=4094) (hp:Sl iX 2 w pv ps) (hpb:∀ k,pv.ownBlock=some k->k≠gs/\k≠gm):
  Calls BG 47 #[.pointer (some ⟨gs,0,none⟩),.int .i64 root,pv] w fun e w'=>e=.returned (.bool true)/\ShIs w' gs gm s/\Ch (fun k=>k=gs\/k=gm) w w':=by
 have HS:=Z hS;have HP:=Z hp;have HL:=Z ht.left;obtain ⟨g,hls,hnd,hcnt,-,-⟩:=ht.list (by simpa using hwt);obtain ⟨d,gs',htr,hhp⟩:=ht;rw [Bz] at hhp;obtain ⟨hd19,hgl⟩:=TS.deep (X:=[]) htr (by rw [Bz];exact hhp) (by simpa using hwt);have hgs':gs'=root :: g:=by
  have h3:=qN htr hd19 hhp (fun x hx=>hx) (by omega);rw [hls] at h3;injection h3 with _ h3
  injection h3 with h3
  exact h3.symm
 subst hgs';have HLS:=Z hls;have HND:=Z hnd
 have hpg:∀ q ∈ root :: g,1<=q/\q<s.h.pages:=fun q hq=>by
  obtain ⟨F,ho⟩:=hhp;exact ho.Bc hq
 have HPG:=Z hpg;have HTR:=Z htr;have hpsl:ps.length<=10000:=by have:=rJ ps;omega
 have hglen:(root :: g).length<=10000:=by omega
 have hp1:1<=s.h.pages:=by have:=hpg root BD;omega
 have hp2:s.h.pages<=4096:=hS.ok.h.p2;have hsp:s.h.pages=((root :: g).length:Int)+s.h.spare+1:=by simp only [BC] at hcnt;omega
 have hspn:0<=s.h.spare:=by obtain ⟨F,ho⟩:=hhp;rw [ho.sp];omega
 have HSP:=Z hsp;have hspb:s.h.spare<=4096:=by omega
 have hgl0:0<(root :: g).length:=by simp
 have hgs:=aj hS.blk;have hgm:=hS.book.lt;have HPB:=Z hpb;obtain ⟨A,c,rfl⟩:=Sl.zM hp;have HSH:=Z (ua gs gm s w hS HL.out hp1 hp2);clear hS hp htr hhp hls hnd hcnt hpg hgl hpb hsp;go_enter Tryz.func47,Tryz.ntmps47;go_wp2_with fail;refine HSH.out.mono ?_;rintro e w1 ⟨gu,gb,b1,m,u,rfl,hrq,hm,huh,hub,hs,hc⟩;have HRQ:=Z hrq;have HUH:=Z huh;have HUB:=Z hub;have HS1:=Z hs;have HC1:=Z (show Ch (fun k=>k=gs\/k=gm) w w1 from hc.mono fun _ _ e=>.inl e);have hsz1:=hc.size;clear hrq huh hub hs hc HSH;have HSN:=Z (show SnIs (w1.heap.size+1) (w1.alloc (.cells #[.slice none 0 0] 161 (0,0))) w1.heap.size (.slice none 0 0) [] from ⟨ag rfl,Own.nil,by omega⟩);have HB2:=Z ((Below.refl _ w1).alloc (Bw _) (.cells #[.slice none 0 0] 161 (0,0)));have hsz2:w1.heap.size+1<=(w1.alloc (.cells #[.slice none 0 0] 161 (0,0))).heap.size:=by simp
 go_upto_region 3 with fail
 generalize w1.alloc (.cells #[.slice none 0 0] 161)=w2 at *;obtain ⟨mm,g',hmn,hge,hni⟩:=HTR.out;injection hge with _ hge
 subst hge;have hub2:∀ q ∈ root :: g,u.B q=s.B q:=fun q hq=>HUB.out q (HPG.out q hq).1 (HPG.out q hq).2
 have HRD:=Z (tg d root mm [] [] none ps g true 1 (w1.heap.size+1) w.heap.size b1 m gu gb w1.heap.size (.slice none 0 0) [] u w1 w2 HRQ.out hm HB2.out (Bw _) HSN.out hsz2
  (by rw [hub2 root BD];exact hmn) (bV d hni fun q hq=>hub2 q (BB _ hq)) (fun h=>by cases h) (.inl ⟨rfl,rfl⟩)
  (fun q hq=>by unfold bt;rw [if_neg (by have:=HRQ.out.left;omega),if_neg (by rw [HUH.out];have:=HPG.out q hq;omega)]) HND.out (fun _ _ h=>by cases h) (by simpa using hglen) hpsl (by omega) (by omega))
 clear hmn hni hub2;go_wp2_with fail;refine HRD.out.mono ?_;rintro e w3 ⟨pv3,lv3,rfl,t1,t2,t3,t4,t5⟩;rw [List.nil_append] at t2;have HP3:=Z t1;have HSN3:=Z t2;have hsz3:=t5.size
 have HB3:=Z (show Below w1.heap.size w1 w3 from HB2.out.trans (t5.below (by omega) (fun k hk=>by
  rcases hk with e | e
  ·omega
  ·cases e)))
 have HS3:=Z (HS1.out.ch (S:=fun _=>False) (Ch.zK HB3.out) id id);have HC3:=Z (HC1.out.trans (Ch.zK HB3.out));obtain ⟨A3,c3,rfl⟩:=Sl.zM (t1.sl aV);obtain ⟨A4,c4,rfl⟩:=Sl.zM (t2.o.sl ax);have k0:w3.cell? ⟨w1.heap.size,0,none⟩=some (.slice A4 (root :: g).length c4):=ae t2.blk 0;have k1:=aj t2.blk;have HLP:=Z (de HP.out HC3.out fun k hk e=>by have:=HPB.out k hk;omega);clear t1 t2 t3 t4 t5 HRD HSN HB2
 have hsame:∀ y:Up w3,Calls BG 41 #[.slice A3 ps.length c3,.slice A ps.length c] y.w fun e w'=>e=.returned (.bool true)/\Below y.w.heap.size y.w w':=fun y=>by
  have:=mC ps ps (.slice A3 ps.length c3) (.slice A ps.length c) y.w ((HP3.out.sl aV).keep y.h) (HLP.out.keep y.h) (by omega);rw [decide_eq_true rfl] at this;exact this
 have HSM:=Z hsame
 have hhead:∀ y:Up w3,Calls BG 29 #[.pointer (some ⟨gs,0,none⟩)] y.w fun e w'=>e=.returned (.agg #[.int .i64 s.h.mode,.int .i64 s.h.pages,.int .i64 s.h.trunk,.int .i64 s.h.spare,.int .i64 s.h.root,.int .u64 s.h.change])/\Below y.w.heap.size y.w w':=fun y=>
  gV gs gm s y.w (HS3.out.ch (S:=fun _=>False) (Ch.zK y.h) id id)
 have HHD:=Z hhead;have f0:=bj k0 k1;have hf3:=lZ;have hf1:=tJ;have hq1:IntKind.i64.wrap (((root :: g).length:Int)+s.h.spare)=((root :: g).length:Int)+s.h.spare:=Bx _ (by omega);have hq2:IntKind.i64.wrap (((root :: g).length:Int)+s.h.spare+1)=s.h.pages:=by rw [Bx _ (by omega)];exact HSP.out.symm
 clear hsame hhead;generalize hgl:(root :: g).length=gl at *;have HGL:=Z hgl;clear hgl;go_upto_region 4 with fail
 refine aM (by kernel_rfl) (by kernel_rfl) ?_
 repeat (go_big_quiet_step (first | (go_at_call 41;(with_reducible exact eF (HSM.out _))) | (go_at_call 29;(with_reducible exact eF (HHD.out _)))))
 refine wpQuiet_nil ?_;rintro w' ⟨⟨w4,hb4⟩,rfl⟩;have HS4:=Z (HS3.out.ch (S:=fun _=>False) (Ch.zK hb4) id id);have HC4:=Z (HC3.out.trans (Ch.zK hb4));have HSN4:=Z (HSN3.out.below hb4);have HLC:=Z (tu HLS.out HS4.out);unfold co at HLC;have hne:∀ k,(k=gs\/k=gm)->k<w1.heap.size:=fun k hk=>by omega
 clear k0 f0 hb4;go_wp2_with fail;refine HLC.out.mono ?_;rintro e w5 ⟨⟨v,rfl,ho,-⟩,hs,hc⟩;have HS5:=Z hs;have HC5:=Z (HC4.out.trans hc);have HSN5:=Z (HSN4.out.ch hc (fun e=>by have:=hne _ e;omega) (fun k hk e=>by have:=(HSN4.out.o.lt k hk).1;have:=hne _ e;omega));have HO5:=Z (ho.sl ax);obtain ⟨A5,c5,rfl⟩:=Sl.zM (ho.sl ax);rw [HGL.out] at HO5 ⊢;have k0:w5.cell? ⟨w1.heap.size,0,none⟩=some (.slice A4 gl c4):=ae HSN5.out.blk 0;have k1':=aj HSN5.out.blk;have hl0:0<(root :: g).length:=by rw [HGL.out];exact hgl0
 obtain ⟨b5,off5,rfl,hb5,q0⟩:=HO5.out.int hl0;simp only [List.getElem_cons_zero,Nat.add_zero] at q0;have hgl1:(0:Int)<(gl:Int):=by omega
 have hgl2:((gl:Int) != (gl:Int))=false:=by simp
 have hrt:(root != root)=false:=by simp
 clear ho hs hc HLC;go_wp2_with fail;go_loopw [14] (fun iv wr=>∃ i:Nat,iv=.int .i64 i/\i<=gl/\wr=w5) (fun iv _=>gl - (BH iv).toNat)
 case atStart=>exact ⟨0,rfl,BE _,rfl⟩
 case round=>
  obtain ⟨i,rfl,hi,rfl⟩:=hrel;by_cases hlt:i<gl
  ·have hil:i<(root :: g).length:=by rw [HGL.out];exact hlt
   obtain ⟨b6,off6,he,hb6,q1⟩:=HO5.out.int hil;injection he with he
   injection he with e1 e2
   subst e1 e2;have hi1:(i:Int)<(gl:Int):=by omega
   have HMM:=Z (show (root :: g)[i] ∈ root :: g from BL hil);generalize (root :: g)[i]=x at *;have HAD:=Z ((iS x (w1.heap.size+1) w1.heap.size (.slice A4 gl c4) (root :: g) wr HSN5.out (by rw [HGL.out];omega) (by omega)));go_wp2_with fail;refine HAD.out.mono ?_;rintro e w6 ⟨hy,-⟩;obtain ⟨rfl,rfl⟩:=hy HMM.out;go_wp2_with fail;go_roundw
   case rel=>exact ⟨i+1,by go_num,hlt,by trivial⟩
   case measure=>simp [BH];omega
  ·obtain rfl:i=gl:=by omega
   go_wp2_with fail;go_ret;exact ⟨rfl,HS5.out,HC5.out⟩
structure BuM (w:BA) (g:Nat) (keys:List By) (i:Nat) (R:List Pr) (tot used:Nat) (rv mv:BN) (wr:BA):Prop where
 u:BuI keys i R tot used
 r:Own iX 2 62 w.heap.size wr rv R
 mb:wr.heap[g]?=some (.cells #[mv] 69 (0,0))
 mo:Own iX 2 62 w.heap.size wr mv (bJ R)
 d:Dis rv mv
 gl:w.heap.size<=g
 gr:rv.ownBlock≠some g/\mv.ownBlock≠some g
 b:Below w.heap.size w wr
theorem BuM.below {w:BA} {g:Nat} {keys:List By} {i:Nat} {R:List Pr} {tot used:Nat} {rv mv:BN} {wr w':BA} (h:BuM w g keys i R tot used rv mv wr) (hb:Below wr.heap.size wr w'):BuM w g keys i R tot used rv mv w':=
 ⟨h.u,h.r.below hb,af h.mb hb,h.mo.below hb,h.d,h.gl,h.gr,h.b.trans (hb.mono h.b.size)⟩
theorem BuM.far {w:BA} {g:Nat} {keys:List By} {i:Nat} {R:List Pr} {tot used:Nat} {rv mv:BN} {w1 wr w':BA} {S:Nat->Prop} (h:BuM w g keys i R tot used rv mv wr) (h1:BuM w g keys i R tot used rv mv w1) (hs:∀ k,S k->w1.heap.size<=k) (hc:Ch S wr w'):BuM w g keys i R tot used rv mv w':=
 ⟨h.u,h.r.ch hc fun k hk e=>by have:=(h1.r.lt k hk).2;have:=hs k e;omega,hc.keep h.mb fun e=>by have:=aj h1.mb;have:=hs g e;omega,h.mo.ch hc fun k hk e=>by have:=(h1.mo.lt k hk).2;have:=hs k e;omega,h.d,h.gl,h.gr,h.b.trans (hc.below h.b.size fun k hk=>by have:=hs k hk;have:=h1.b.size;omega)⟩
structure BuM2 (w:BA) (g:Nat) (keys:List By) (i:Nat) (R:List Pr) (p:Pr) (tot used:Nat) (rv mv:BN) (wr:BA):Prop where
 u:BuI keys i R tot used
 r:Own iX 2 62 w.heap.size wr rv (R ++ [p])
 mb:wr.heap[g]?=some (.cells #[mv] 69 (0,0))
 mo:Own iX 2 62 w.heap.size wr mv (bJ R)
 d:Dis rv mv
 gl:w.heap.size<=g
 gr:rv.ownBlock≠some g/\mv.ownBlock≠some g
 b:Below w.heap.size w wr
theorem BuM.push {w:BA} {g:Nat} {keys:List By} {i:Nat} {R:List Pr} {tot used:Nat} {rv mv v9:BN} {wr w9:BA} {p:Pr} (h:BuM w g keys i R tot used rv mv wr) (ho:Own iX 2 62 w.heap.size w9 v9 (R ++ [p])) (hg:wr.grownBy w9 rv.ownBlock) (hat:v9.ownBlock=rv.ownBlock\/v9.ownBlock=some wr.heap.size):
  BuM2 w g keys i R p tot used v9 mv w9:=by
 have hc:Ch (fun k=>rv.ownBlock=some k) wr w9:=Ch.zL hg fun k hk=>hk
 have hgl:=aj h.mb;refine ⟨h.u,ho,hc.keep h.mb (fun e=>h.gr.1 e),h.mo.ch hc (fun k hk e=>h.d k e hk),fun k h1 h2=>?_,h.gl,⟨fun e=>?_,h.gr.2⟩,h.b.trans (hc.below h.b.size fun k hk=>(h.r.lt k hk).1)⟩
 ·rcases hat with e | e
  ·exact h.d k (e ▸ h1) h2
  ·rw [e] at h1;injection h1 with h1
   have:=(h.mo.lt k h2).2;omega
 ·rcases hat with e2 | e2
  ·exact h.gr.1 (e2 ▸ e)
  ·rw [e2] at e;injection e with e
   omega
theorem BuM2.no {w:BA} {g:Nat} {keys:List By} {i:Nat} {R:List Pr} {tot used l used':Nat} {rv mv:BN} {wr:BA} {v ky:By} (h:BuM2 w g keys i R (ky,v) tot used rv mv wr) (hi:i<keys.length) (hk:keys[i]=ky) (hl:l<=5099)
  (hv:(65536<tot+l/\v=[]/\used'=used)\/(tot+l<=65536/\v.length=l/\used'=used+l)) (hok:¬ km (ky,v)):BuM w g keys (i+1) (R ++ [(ky,v)]) (tot+l) used' rv mv wr:=
 ⟨hk ▸ h.u.step hi hl v used' hv,h.r,h.mb,by rw [eL,if_neg hok];exact h.mo,h.d,h.gl,h.gr,h.b⟩
theorem BuM2.yes {w:BA} {g:Nat} {keys:List By} {i:Nat} {R:List Pr} {tot used l used':Nat} {rv mv:BN} {wr w':BA} {v ky:By} (h:BuM2 w g keys i R (ky,v) tot used rv mv wr) (hi:i<keys.length) (hk:keys[i]=ky) (hl:l<=5099)
  (hv:(65536<tot+l/\v=[]/\used'=used)\/(tot+l<=65536/\v.length=l/\used'=used+l)) (hok:km (ky,v)) (hm:yV w' g wr.heap.size (mX (bJ R) ky v)) (hc:Ch (fun j=>j=g) wr w'):
  ∃ mv',BuM w g keys (i+1) (R ++ [(ky,v)]) (tot+l) used' rv mv' w':=by
 obtain ⟨mv',h1,h2⟩:=hm;have hgl:=aj h.mb;refine ⟨mv',hk ▸ h.u.step hi hl v used' hv,h.r.ch hc (fun k hk e=>h.gr.1 (e ▸ hk)),h1,?_,fun k h3 h4=>?_,h.gl,⟨h.gr.1,fun e=>?_⟩,h.b.trans (hc.below h.b.size fun k hk=>hk ▸ h.gl)⟩
 ·rw [eL,if_pos hok];rw [tH _ _ h.u.ms] at h2;exact h2.base h.b.size
 ·have:=(h.r.lt k h3).2;have:=(h2.lt k h4).1;omega
 ·have:=(h2.lt g e).1;omega
def za (sz i:Nat):Nat:=sz * (i % 3) / 2
theorem sM (keys:List By) (kv:BN) (size:Int) (again:Bool) (w:BA) (hk:Sl sC 1 w kv keys):
  Calls BG 13 #[kv,.int .i64 size,.bool again] w fun e w'=>e=.returned (.bool true)/\Below w.heap.size w w':=by
 obtain ⟨Ak,ck,rfl⟩:=Sl.zM hk;have HK:=Z hk;clear hk;go_enter Tryz.func13,Tryz.ntmps13;go_wp2_with fail;refine (rC w).mono ?_;rintro e w0 ⟨rfl,hb⟩;have HB0:=Z hb;clear hb;go_upto_region 6 with fail
 obtain ⟨sz,hsz,hs2⟩:=xP size 5100 (by omega) (by omega);rw [hsz];clear hsz;have hsz1:=HB0.out.size;have hHM:=Z (show BuM w w0.heap.size keys 0 [] 0 0 (.slice (some ⟨w0.heap.size+1,0,none⟩) 0 0) (.slice none 0 0) ((w0.alloc (.cells #[.slice none 0 0] 69)).alloc (.cells #[] 62)) from
  ⟨BuI.start keys,by
    have h:=World.ownsRow_lit (e:=62) (size:=2) (base:=w.heap.size) (w0.alloc (.cells #[.slice none 0 0] 69)) #[] 0 (by simp;omega) (by simp [BR]) (by simp);rw [show (w0.alloc (.cells #[.slice none 0 0] 69)).heap.size=w0.heap.size+1 by simp] at h;exact h,am (ag rfl) _,Own.nil,Dis.nil.symm,hsz1,⟨fun e=>(by injection e with e;simp only at e;omega),fun e=>(by cases e)⟩,(HB0.out.alloc hsz1 _).alloc (by simp;omega) _⟩)
 generalize (w0.alloc (.cells #[.slice none 0 0] 69)).alloc (.cells #[] 62)=w1 at *;generalize w0.heap.size=g at *;clear hsz1;go_wp2_with fail;go_loopw [8,9,10] (fun rv tv iv wr=>∃ (i:Nat) (R:List Pr) (tot used:Nat) (mv:BN),iv=.int .i64 i/\tv=.int .i64 tot/\i<=300/\i<=keys.length/\BuM w g keys i R tot used rv mv wr) (fun _ _ iv _=>300 - (BH iv).toNat)
 case atStart=>exact ⟨0,[],0,0,_,rfl,rfl,by omega,BE _,hHM.out⟩
 case round=>
  clear hHM;obtain ⟨i,R,tot,used,mv,rfl,rfl,hi,hik,hM⟩:=hrel;have HM:=Z hM;obtain ⟨Ar,cr,rfl⟩:=Sl.zM (hM.r.sl aV);clear hM;by_cases hg:i<keys.length/\i<300
  ·obtain ⟨hg1,hg2⟩:=hg;have hg3:(i:Int)<(keys.length:Int):=by omega
   have hg4:(i:Int)<300:=by omega
   have hl5:za sz i<=5099:=by unfold za;have h3:=Nat.mod_lt i (show 0<3 by omega);have:sz * (i % 3)<=sz * 2:=BO _ (by omega);omega
   have hval:wrap64 ((wrap64 ((sz:Int) * ((i:Int) % 3))).tdiv 2)=((za sz i:Nat):Int):=by
    have h3:=Nat.mod_lt i (show 0<3 by omega);have h4:sz * (i % 3)<=sz * 2:=BO _ (by omega);have e1:(sz:Int) * ((i:Int) % 3)=((sz * (i % 3):Nat):Int):=by push_cast;rfl
    unfold za;rw [e1];generalize sz * (i % 3)=t at *;rw [BJ (t:Int) (by omega),Int.tdiv_eq_ediv_of_nonneg (by omega),BJ ((t:Int) / 2) (by omega)];omega
   generalize za sz i=l at *;obtain ⟨z,hz⟩:∃ z:List UInt8,z=List.replicate l 0:=⟨_,rfl⟩;have hzl:z.length=l:=by rw [hz,List.length_replicate]
   have hmk:=ko wr l (by omega);rw [<- hz] at hmk;have hba:Below wr.heap.size wr (wr.alloc (.cells (z.flatMap uC).toArray 5)):=(Below.refl _ wr).alloc (Bw _) _;have HX2:=Z (ag (w0:=wr) (g:=wr.heap.size) (o:=.cells (z.flatMap uC).toArray 5) rfl);have HBA:=Z hba;clear hba hz;generalize wr.alloc (.cells (z.flatMap uC).toArray 5)=w2 at *;have hcv:(convert 46 9 (.slice (some ⟨wr.heap.size,0,none⟩) l l)).run BG w2=.ok (.string (ap z)) w2:=ia w2 wr.heap.size l l z hzl (ic HX2.out);have hms:(ap z).size=l:=by rw [au];exact hzl
   have HZ:=Z hzl;have htb:tot<=5100 * 300:=by have:=HM.out.u.tt;omega
   have HTB:=Z htb;have htw:IntKind.i64.wrap ((tot:Int)+(l:Int))=((tot+l:Nat):Int):=by rw [Bx _ (by omega)];rfl
   clear hzl;obtain ⟨v2,used',hv2,hv3,hv4⟩:∃ (v2:By) (used':Nat),((65536<tot+l/\v2=[]/\used'=used)\/(tot+l<=65536/\v2.length=l/\used'=used+l))/\(65536<tot+l->v2=[])/\(tot+l<=65536->v2=z):=by
    by_cases h:65536<tot+l
    ·exact ⟨[],used,.inl ⟨h,rfl,rfl⟩,fun _=>rfl,fun h2=>by omega⟩
    ·exact ⟨z,used+l,.inr ⟨by omega,HZ.out,rfl⟩,fun h2=>absurd h2 h,fun _=>rfl⟩
   have HV2:=Z hv2;clear hv2;go_upto_if 53 with fail
   go_cut [11] from 41 to 53 (fun v wx=>v=.string (ap v2)/\w2=wx)
   case first=>
    by_cases h6:65536<tot+l
    ·have h61:(65536:Int)<(tot:Int)+(l:Int):=by omega
     have hv5:=Z (hv3 h6);clear hv3 hv4 h6;go_wp2_with fail;go_meet
     case rel=>exact ⟨by rw [hv5.out];rfl,rfl⟩
    ·have h61:¬ (65536:Int)<(tot:Int)+(l:Int):=by omega
     have hv5:=Z (hv4 (by omega));clear hv3 hv4 h6;go_wp2_with fail;go_meet
     case rel=>first | exact ⟨by rw [hv5.out],rfl⟩ | (repeat apply Exists.intro);exact ⟨⟨(show Value.string (ap z)=.string (ap v2) by rw [hv5.out]),rfl⟩,rfl⟩
   case rest=>
   obtain ⟨rfl,rfl⟩:=hcut;have hvl2:v2.length<=5099:=by
    rcases HV2.out with ⟨_,h,_⟩ | ⟨_,h,_⟩
    ·rw [h];exact BE _
    ·omega
   clear hv3 hv4 hmk hcv hval hms;have HM2:=Z (HM.out.below HBA.out);obtain ⟨bk,ok1,rfl,hbk,-,c0⟩:=HK.out.key hg1;have c1:=(HM2.out.b.cell (p:=⟨bk,ok1+i,none⟩) hbk).trans c0;have HCK:=Z (Bv c0 hbk);obtain ⟨ky,hky⟩:∃ z,keys[i]=z:=⟨_,rfl⟩;rw [hky] at c1 HCK;have HKY:=Z hky;have HMA:=Z (HM2.out.r.alloc (.cells #[.string (ap ky),.string (ap v2)] 62));have HRB:=Z (show R.length<=300 by have:=HM.out.u.rl;omega);have hsz2:=HM2.out.b.size;clear c0 hky;go_wp2_with (at_builtin;refine Hid.out ?_);refine Z ?_;refine al (base:=w.heap.size) rfl rfl nR rfl rfl HMA.out (Sl.one ((ky,v2):Pr) (by simp) aV rfl) (by have:=HRB.out;simp only [BR,BF];omega) (by have:=HRB.out;simp only [BF];omega) (by simp;omega) ?_;intro v9 w9 ho hg9 hat;have hba9:Below w2.heap.size w2 (w2.alloc (.cells #[.string (ap ky),.string (ap v2)] 62)):=(Below.refl _ w2).alloc (Bw _) _;have HP9:=Z ((HM2.out.below hba9).push ho hg9 hat);obtain ⟨A9,c9,rfl⟩:=Sl.zM (ho.sl aV);generalize hl9:(R ++ [((ky,v2):Pr)]).length=l9 at *;have hszk:(ap ky).size=ky.length:=au _;have hszv:(ap v2).size=v2.length:=au _;have c2:=(HP9.out.b.cell (p:=⟨bk,ok1+i,none⟩) HCK.out.2).trans HCK.out.1;have hbk9:bk<w9.heap.size:=Nat.lt_of_lt_of_le HCK.out.2 HP9.out.b.size;have hwi:IntKind.i64.wrap ((i:Int)+1)=((i+1:Nat):Int):=by rw [Bx _ (by omega)];rfl
   have hi300:i+1<=300:=by omega
   clear ho hg9 hat hba9 c1 hl9 hbk;go_upto_region 15 with fail
   go_cut [73] from 41 to 73 (fun c wx=>c=.bool (decide (km (ky,v2)))/\w9=wx)
   case first=>
    by_cases h1:ky.length<=64
    ·have h11:(((ap ky).size:Nat):Int)<=64:=by rw [hszk];omega
     have h12:decide (((ap ky).size:Int)<=64)=true:=decide_eq_true h11;by_cases h2:v2.length<=5000
     ·have h21:(((ap v2).size:Nat):Int)<=5000:=by rw [hszv];omega
      have h22:decide (((ap v2).size:Int)<=5000)=true:=decide_eq_true h21;have HD:=Z (show decide (km (ky,v2))=true from decide_eq_true ⟨h1,h2⟩);clear hszk hszv h1 h2;go_wp2_with fail;go_meet
      case rel=>exact ⟨by rw [HD.out] <;> (first | rfl | rw [h22]),rfl⟩
     ·have h21:¬ (((ap v2).size:Nat):Int)<=5000:=by rw [hszv];omega
      have h22:decide (((ap v2).size:Int)<=5000)=false:=decide_eq_false h21;have HD:=Z (show decide (km (ky,v2))=false from decide_eq_false fun h=>h2 h.2);clear hszk hszv h1 h2;go_wp2_with fail;go_meet
      case rel=>exact ⟨by rw [HD.out] <;> (first | rfl | rw [h22]),rfl⟩
    ·have h11:¬ (((ap ky).size:Nat):Int)<=64:=by rw [hszk];omega
     have h12:decide (((ap ky).size:Int)<=64)=false:=decide_eq_false h11;have HD:=Z (show decide (km (ky,v2))=false from decide_eq_false fun h=>h1 h.1);clear hszk hszv h1;go_wp2_with fail;go_meet
     case rel=>exact ⟨by rw [HD.out],rfl⟩
   case rest=>
   obtain ⟨rfl,rfl⟩:=hcut;clear hszk hszv;by_cases hok:km (ky,v2)
   ·rw [decide_eq_true hok];have HOK:=Z hok;clear hok;have HPT:=Z (qK (bJ R) ky v2 g w.heap.size w9 ⟨mv,HP9.out.mb,HP9.out.mo⟩ (by have:=HP9.out.u.ml;omega));go_wp2_with fail;refine HPT.out.mono ?_;rintro e w10 ⟨⟨r,rfl⟩,hm,hc⟩;obtain ⟨mv',hN⟩:=HP9.out.yes hg1 HKY.out (by omega) HV2.out HOK.out hm hc;have HN:=Z hN;clear hm hc hN HPT;go_wp2_with fail;go_roundw
    case rel=>exact ⟨i+1,_,tot+l,used',mv',by go_num,by go_num,hi300,hg1,HN.out⟩
    case measure=>simp [BH];omega
   ·rw [decide_eq_false hok];have HN:=Z (HP9.out.no hg1 HKY.out (by omega) HV2.out hok);clear hok;go_wp2_with fail;go_roundw
    case rel=>exact ⟨i+1,_,tot+l,used',mv,by go_num,by go_num,hi300,hg1,HN.out⟩
    case measure=>simp [BH];omega
  ·have HE:=Z hg;go_upto_region 8 with fail
   go_cut [38] from 31 to 38 (fun c wx=>c=.bool false/\wr=wx)
   case first=>
    by_cases ha:i<keys.length
    ·have ha1:(i:Int)<(keys.length:Int):=by omega
     have ha2:¬ (i:Int)<300:=by have:=HE.out;omega
     have ha3:decide ((i:Int)<300)=false:=decide_eq_false ha2;clear hg;go_wp2_with fail;go_meet
     case rel=>exact ⟨by first | rfl | rw [ha3],rfl⟩
    ·have ha1:¬ (i:Int)<(keys.length:Int):=by omega
     have ha3:decide ((i:Int)<(keys.length:Int))=false:=decide_eq_false ha1;clear hg;go_wp2_with fail;go_meet
     case rel=>exact ⟨by first | rfl | rw [ha3],rfl⟩
   case rest=>
   obtain ⟨rfl,rfl⟩:=hcut;clear hg;go_wp2_with fail;refine (gL 4096 wr).mono ?_;rintro e w2 ⟨gs,gm,rfl,hs,h1,h2,hb⟩;have HS2:=Z (show ShIs w2 gs gm (dA 4096) from hs);have HM2:=Z (HM.out.below hb);have HGS:=Z (Bv h1 h2);clear hs h1 h2 hb;obtain ⟨o1,o2,o3,o4,o5,o6⟩:=rQ;have HNW:=Z (eO gs gm (dA 4096) w2 HS2.out);rw [o1,o2] at HNW;generalize aJ (dA 4096)=sA at *;clear o1 o2;go_wp2_with fail;refine HNW.out.mono ?_;rintro e w3 ⟨rfl,hs,hc⟩;have hlo:∀ k,(k=gs\/k=gm)->wr.heap.size<=k:=fun k hk=>by have:=HGS.out;omega
   have HSA:=Z hs;have HFR:=Z (gW gs gm sA 1 w3 hs);rw [o3] at HFR;generalize cX sA 1=sB at *;have HM3:=Z (HM2.out.far HM.out hlo hc);clear hs hc o3 HNW;go_wp2_with fail;refine HFR.out.mono ?_;rintro e w4 ⟨rfl,hs,hc⟩;have HS4:=Z hs;have HM4:=Z (HM3.out.far HM.out hlo hc);have HO:=Z (Bv o4 (Bv o5 o6));clear hs hc o4 o5 o6 HFR;have hroom:=HM.out.u.room (by omega);have hRl:R.length<=999:=by have:=HM.out.u.rl;omega
   have HRN:=Z (show aH (R.map (·.1))=true->R.any dH=false->∃ q,((eV R).run sB).2=.ok q from fun h1 h2=>by
    obtain ⟨s',q,hr,_⟩:=oY (ps:=R) (X:=[]) (s:=sB) (fun p hp=>by
     have:=List.any_eq_false.1 h2 p hp;simp only [dH,decide_eq_true_eq] at this;omega) (fun p hp=>(rises_pw.1 h1).1 p.1 (List.mem_map_of_mem hp)) (List.pairwise_map.1 (rises_pw.1 h1).2) HO.out.1 (by simp only [BC];omega)
    exact ⟨q,by rw [hr]⟩)
   have HBLD:=Z (oZ R (.slice Ar R.length cr) gs gm sB w4 HS4.out (HM4.out.r.sl aV) (fun k hk=>by
    have h1:=(HM.out.r.lt k hk).2;have h2:=HGS.out;omega) hRl (fun p hp=>by have:=HM.out.u.rv p hp;omega) HRN.out)
   unfold co at HBLD;clear hRl;go_wp2_with fail;refine HBLD.out.mono ?_;rintro e w5 ⟨hb,hs,hc⟩;have HS5:=Z hs;have HM5:=Z (HM4.out.far HM.out hlo hc);obtain ⟨q,c,rfl,hcs⟩:∃ (q c:Int),e=.returned (.tuple #[.int .i64 q,.int .i64 c])/\((c=0/\bJ R=R)\/((c=1\/c=47)/\lO R sB=sB)):=by
    cases hri:aH (R.map (·.1))
    ·exact ⟨0,1,hb.1 hri,.inr ⟨.inl rfl,by unfold lO;rw [if_neg (by rw [hri];simp)]⟩⟩
    ·cases hlg:R.any dH
     ·obtain ⟨q,hq⟩:=HRN.out hri hlg;exact ⟨q,0,hb.2.2 hri hlg q hq,.inl ⟨rfl,sy hri hlg⟩⟩
     ·exact ⟨0,47,hb.2.1 hri hlg,.inr ⟨.inr rfl,by unfold lO;rw [if_neg (by rw [hlg];simp)]⟩⟩
   clear hb hs hc HBLD;obtain ⟨Am,cm,em⟩:=Sl.zM (HM5.out.mo.sl aV);subst em;have k0:w5.cell? ⟨g,0,none⟩=some (.slice Am (bJ R).length cm):=ae HM5.out.mb 0;have k1:=aj HM5.out.mb;generalize hgl:(bJ R).length=gl at *;go_upto_if 103 with fail
   go_cut [] from 102 to 128 (fun wx=>BuM w g keys i R tot used (.slice Ar R.length cr) (.slice Am gl cm) wx)
   case first=>
    rcases hcs with ⟨rfl,hgs⟩ | ⟨hc1,hbs⟩
    ·have HSM:=Z (mC R (bJ R) (.slice Ar R.length cr) (.slice Am gl cm) w5 (HM5.out.r.sl aV) (HM5.out.mo.sl aV) (by have:=HM.out.u.rl;omega));rw [decide_eq_true hgs.symm] at HSM;clear hgs;go_wp2_with fail;refine HSM.out.mono ?_;rintro e w6 ⟨rfl,hb⟩;have HM6:=Z (HM5.out.below hb);clear hb;go_wp2_with fail;go_meet
     case rel=>exact HM6.out
    ·rw [hbs] at HS5;have HHD:=Z (fun (W:BA) (h:Below w5.heap.size w5 W)=>gV gs gm sB W (HS5.out.ch (S:=fun _=>False) (Ch.zK h) id id));rw [HO.out.2.1,HO.out.2.2] at HHD;have hf3:=lZ;have hf1:=tJ;clear hbs;rcases hc1 with rfl | rfl
     all_goals
      go_wp2_with fail;refine (HHD.out w5 (Below.refl _ _)).mono ?_;rintro e w6 ⟨rfl,hb⟩;have HB6:=Z hb;clear hb;go_wp2_with fail;refine (HHD.out w6 HB6.out).mono ?_;rintro e w7 ⟨rfl,hb⟩;have HM7:=Z (HM5.out.below (HB6.out.trans (hb.mono HB6.out.size)));clear hb;go_wp2_with fail;go_meet
      case rel=>exact HM7.out
   case rest=>
   have HMC:=Z hcut;have HGL:=Z hgl;clear hcut k0 k1 hcs hgl;go_wp2_with fail;refine (gL 4096 wc).mono ?_;rintro e w6 ⟨gs2,gm2,rfl,hs,h1,h2,hb⟩;have HT6:=Z (show ShIs w6 gs2 gm2 (dA 4096) from hs);have HM6:=Z (HMC.out.below hb);have HG2:=Z (Bv h1 h2);clear hs h1 h2 hb
   have hMr:aH ((bJ R).map (·.1))=true:=rises_pw.2 ⟨fun k hk=>by
    obtain ⟨p,hp,rfl⟩:=List.mem_map.1 hk;exact (HM.out.u.mg p hp).1,List.pairwise_map.2 HM.out.u.ms⟩
   have hMl:(bJ R).any dH=false:=List.any_eq_false.2 fun p hp=>by
    have:=(HM.out.u.mg p hp).2;simp only [dH,decide_eq_true_eq];omega
   have hroom2:=hroom.2;obtain ⟨sT,q2,hr2,hts,-⟩:=oY (ps:=bJ R) (X:=[]) (s:=dA 4096) (fun p hp=>(HM.out.u.mg p hp).2) (fun p hp=>(HM.out.u.mg p hp).1) HM.out.u.ms hp_new (by simp only [BC];omega);have HTS:=Z hts;have HSP:=Z (ry hr2 rfl);have hbs:lO (bJ R) (dA 4096)=sT:=by unfold lO;rw [if_pos ⟨hMr,hMl⟩,hr2]
   have hmo6:=HM6.out.mo.sl aV;have k0:w6.cell? ⟨g,0,none⟩=some (.slice Am gl cm):=ae HM6.out.mb 0;have k1:=aj HM6.out.mb
   have HBK:=Z (show ∀ k,(Value.slice Am gl cm).ownBlock=some k->k≠gs2/\k≠gm2 from fun k hk=>by
    have h1:=(HMC.out.mo.lt k hk).2;have h2:=HG2.out;omega)
   have HBL2:=Z (oZ (bJ R) (.slice Am gl cm) gs2 gm2 (dA 4096) w6 HT6.out hmo6 HBK.out (by have:=HM.out.u.ml;omega) (fun p hp=>by have:=(HM.out.u.mg p hp).2;omega) (fun _ _=>⟨q2,by rw [hr2]⟩));have HOK2:=Z (Bv hMr (Bv hMl (show ((eV (bJ R)).run (dA 4096)).2=.ok q2 by rw [hr2])));rw [hbs] at HBL2;unfold co at HBL2;clear hMr hMl hr2 hts hbs hmo6 hroom2;go_wp2_with fail;refine HBL2.out.mono ?_;rintro e w7 ⟨hb,hs,hc⟩;obtain rfl:=hb.2.2 HOK2.out.1 HOK2.out.2.1 q2 HOK2.out.2.2;have hlo2:∀ k,(k=gs2\/k=gm2)->wc.heap.size<=k:=fun k hk=>by have:=HG2.out;omega
   have HT7:=Z hs;have HM7:=Z (HM6.out.far HMC.out hlo2 hc);have HHD:=Z (gV gs2 gm2 sT w7 hs);rw [HSP.out] at HHD;have hf3:=lZ;clear hb hs hc HBL2 k0 k1;go_wp2_with fail;refine HHD.out.mono ?_;rintro e w8 ⟨rfl,hb⟩;have HT8:=Z (HT7.out.ch (S:=fun _=>False) (Ch.zK hb) id id);have HM8:=Z (HM7.out.below hb);have HRT:=Z (og q2 (bJ R) (.slice Am gl cm) gs2 gm2 sT w8 HT8.out HTS.out (by omega) (HM8.out.mo.sl aV) HBK.out);have k0:w8.cell? ⟨g,0,none⟩=some (.slice Am gl cm):=ae HM8.out.mb 0;have k1:=aj HM8.out.mb;clear hb HHD;go_wp2_with fail;refine HRT.out.mono ?_;rintro e w9 ⟨rfl,hs,hc⟩;have HT9:=Z hs;have HM9:=Z (HM8.out.far HMC.out hlo2 hc);clear hs hc HRT k0 k1;have k0:w9.cell? ⟨g,0,none⟩=some (.slice Am gl cm):=ae HM9.out.mb 0;have k1:=aj HM9.out.mb;cases again
   ·go_wp2_with fail;go_ret;exact ⟨rfl,HM9.out.b⟩
   ·by_cases hg0:gl=0
    ·have hg1:¬ (0:Int)<(gl:Int):=by omega
     have hg2:decide ((0:Int)<(gl:Int))=false:=decide_eq_false hg1;clear hg0;go_wp2_with fail;go_ret;exact ⟨rfl,HM9.out.b⟩
    ·have hg1:(0:Int)<(gl:Int):=by omega
     have hgb:gl<=300:=by have:=HM.out.u.ml;have:=HGL.out;omega
     have hdv:wrap64 ((gl:Int).tdiv 2)=((gl / 2:Nat):Int):=by rw [Int.tdiv_eq_ediv_of_nonneg (by omega),BJ ((gl:Int) / 2) (by omega)];omega
     have hgi:gl / 2<(bJ R).length:=by rw [HGL.out];omega
     obtain ⟨bm,om,rfl,hbm,d0,d1⟩:=(show Sl iX 2 w9 (.slice Am gl cm) (bJ R) from HM9.out.mo.sl aV).zW hgi;have hg3:((gl / 2:Nat):Int)<(gl:Int):=by omega
     have hky:=(HM.out.u.mg (bJ R)[gl / 2] (BL hgi)).1;obtain ⟨ky,hk1⟩:∃ z,(bJ R)[gl / 2].1=z:=⟨_,rfl⟩;rw [hk1] at d0 hky;clear hk1 d1 hg0;go_upto_region 32 with fail
     have f0:=bj k0 k1;have f1:=bj d0 hbm;clear k0 k1 d0 hbm;refine aM (by kernel_rfl) (by kernel_rfl) ?_
     repeat (go_big_quiet_step (fail))
     refine wpQuiet_nil ?_;rintro w' ⟨⟨w10,hb10⟩,rfl⟩;have HT10:=Z (HT9.out.ch (S:=fun _=>False) (Ch.zK hb10) id id);have HM10:=Z (HM9.out.below hb10);obtain ⟨s2,r2,ht2,-⟩:=HTS.out.del (by simp only [BC];omega) ky;have hwd:=yr (bJ R) ky;obtain ⟨s3,r3,ht3,-⟩:=ht2.put (by simp only [BC];omega) (k:=ky) (v:=[110,101,119]) hky (by decide);rw [xI] at ht3;have HT3:=Z ht3;have HDL:=Z (wP r2 HT10.out);have HR3:=Z r3;unfold co at HDL;clear hb10 f0 f1 r2 ht2 r3 ht3;go_wp2_with fail;refine HDL.out.mono ?_;rintro e w11 ⟨rfl,hs,hc⟩;have HT11:=Z hs;have HM11:=Z (HM10.out.far HMC.out hlo2 hc);have HPT:=Z (pE HR3.out hs);unfold co at HPT;clear hs hc HDL;go_wp2_with fail;refine HPT.out.mono ?_;rintro e w12 ⟨rfl,hs,hc⟩;have HT12:=Z hs;have HM12:=Z (HM11.out.far HMC.out hlo2 hc);have HMP:=Z (qK (bJ R) ky [110,101,119] g w.heap.size w12 ⟨_,HM12.out.mb,HM12.out.mo⟩ (by have:=HM.out.u.ml;omega));clear hs hc HPT;go_wp2_with fail;refine HMP.out.mono ?_;rintro e w13 ⟨⟨r,rfl⟩,hm,hc⟩;rw [tH _ _ HM.out.u.ms] at hm;obtain ⟨mv2,hmb,hmo⟩:=hm;have hgw:=HM12.out.gl;have hglt:=aj HMC.out.mb;have hsz12:=HM12.out.b.size;have HT13:=Z (HT12.out.ch hc (fun e=>by have:=hlo2 _ (.inl e.symm);have:=HG2.out;omega) (fun e=>by have:=HG2.out;omega));have HB13:=Z (HM12.out.b.trans (hc.below hsz12 fun k hk=>hk ▸ hgw));obtain ⟨A13,c13,rfl⟩:=Sl.zM (hmo.sl aV);have k0:=ae hmb 0;have k1:=aj hmb;simp at k0;have hlt12:=(show gs2<w12.heap.size/\gm2<w12.heap.size from ⟨aj HT12.out.blk,HT12.out.book.lt⟩);have hwp:=vw (bJ R) ky [110,101,119];have hch:chn [110,101,119]=0:=rfl;have HRT:=Z (og q2 (putP (bJ R) ky [110,101,119]) _ gs2 gm2 s3 w13 HT13.out HT3.out (by omega) (hmo.sl aV) (fun k hk=>by have:=(hmo.lt k hk).1;omega));clear hc hmb hmo HMP;go_wp2_with fail;refine HRT.out.mono ?_;rintro e w14 ⟨rfl,hs,hc⟩;have hlow:∀ k,(k=gs2\/k=gm2)->w.heap.size<=k:=fun k hk=>by have:=hlo2 k hk;have:=HMC.out.b.size;omega
     have HB14:=Z (HB13.out.trans (hc.below HB13.out.size hlow));clear hs hc k0 k1;go_wp2_with fail;go_ret;exact ⟨rfl,HB14.out⟩
end Go.Proofs.YtknioodagnjchaaGreatDoor
