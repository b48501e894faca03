/- PagerShelf's walk, but for awake. pager: New, Put, Get as exact functions (spare.Take where no page is spare). pager: what is wanted of a page, plain; savepoints searched. pager: wanted, as it is. -/
import Derived.Test.YtdmhbgpejppbkaaGreatZGbi
import Derived.Test.YtdmhbgpejppbkaaGreatZGbc
set_option maxRecDepth 100000
set_option maxHeartbeats 4000000
namespace Go.Proofs.YtdmhbgpejppbkaaGreat
open Go.Lib (hid)
open Go.RowKit Go.Maps
theorem mh (hAW:∀ w:World,Calls Tryz.prog 9 #[] w fun e w'=>e=.returned (.bool true)∧Below w.heap.size w w') (size:Int) (v:Value) (xs:List (Ac × Value)) (w:World) (hv:Sl uA 5 w v xs) (hl:xs.length≤9223372036854775807) (hf:∀ p ∈ xs,∃ s l c,p.2=Value.slice s l c):
  Calls Tryz.prog 8 #[.int .i64 size,v] w fun e w'=>e=.returned (.bool true)∧Below w.heap.size w w':=by
 have HV:=hid hv;have HL:=hid hl;have HFS:=hid hf;have HAW:=hid hAW;obtain ⟨A,c,rfl⟩:=Sl.len' hv;clear hv hl hAW hf;go_enter Tryz.func8,Tryz.ntmps8;go_wp2_with fail;refine (HAW.out w).mono ?_;rintro e w1 ⟨rfl,hb1⟩;have HB1:=hid hb1;clear hb1;go_wp2_with fail;refine (lx 16384 w1).mono ?_;rintro e w2 ⟨D,rfl,hd,hF,hb⟩;have HB2:=hid (HB1.out.trans (hb.mono HB1.out.size));have HDF:=hid (fun k (hk:D.F k)=>Nat.le_trans HB1.out.size (hF k hk));have HOP:=hid (ip size w2 hd rfl rfl);unfold au at HOP;clear hd hF hb;go_wp2_with fail;refine HOP.out.mono ?_;rintro e w3 ⟨L,rfl,p3,f3,c3⟩;have HF3:=hid (fun k (hk:L.F k)=>(f3 k hk).elim (HDF.out k) (fun e=>Nat.le_trans HB2.out.size e));have HB3:=hid (HB2.out.trans (c3.below HB2.out.size HDF.out));have HBG:=hid (eL w3 p3 ⟨rfl,rfl,rfl,rfl⟩);rw [show (Pgr.fresh (Dk.new 16384) size D.gd).empty.busy=false from rfl] at HBG;unfold au at HBG;clear p3 f3 c3;go_wp2_with fail;refine HBG.out.mono ?_;rintro e w4 ⟨rfl,L4,g4,p4,f4,c4⟩;have HST:=hid (st0 p4);have HP4:=hid p4;have HG4:=hid g4;have HF4:=hid (fun k (hk:L4.F k)=>(f4 k hk).elim (HF3.out k) (fun e=>Nat.le_trans HB3.out.size e));have HB4:=hid (HB3.out.trans (c4.below HB3.out.size HF3.out));clear g4 p4 f4 c4;go_wp2_with fail;refine (iV 4096 w4).mono ?_;rintro e w5 ⟨gs,gm,rfl,hsh,hg1,hg2,hb5⟩;rw [rD] at hsh;have HLP:=hid (show LpE w L.gp gs gm w5 from ⟨L4,_,W0,B0,HG4.out,HP4.out.below hb5,HST.out,hsh,fun e=>by have:=HP4.out.lt e;omega,fun e=>by have:=HP4.out.lt e;omega,Nat.le_trans HB4.out.size hg1,Nat.le_trans HB4.out.size hg2,HF4.out,HB4.out.trans (hb5.mono HB4.out.size)⟩);generalize L.gp=gp at *;clear hsh hg1 hg2 hb5;go_wp2_with fail;go_loopw [8] (fun iv wr=>∃ k:Nat,k≤xs.length∧k≤70∧iv=.int .i64 k∧LpE w gp gs gm wr) (fun iv _=>70 - (intOf iv).toNat)
 case atStart=>exact ⟨0,Nat.zero_le _,by omega,rfl,HLP.out⟩
 case round=>
  obtain ⟨k,hk,hk7,rfl,L5,P5,W,B,hlp⟩:=hrel;have HR:=hid hlp;clear hlp;by_cases hkl:k<xs.length
  ·by_cases hk70:k<70
   ·obtain ⟨b,off,c',he,hbl,hcells⟩:=(fh HV.out (Ch.of_below (S:=fun _=>False) HR.out.b) (fun _ _ h=>h)).at1 hkl;injection he with he1 he2 he3
    subst he1 he3;have hk0:(0:Int)≤(k:Int):=by omega
    have hk1:(k:Int)<(xs.length:Int):=by omega
    have hk2:(k:Int)<70:=by omega
    have HK:=hid (And.intro hkl hk70);obtain ⟨fs,fl,fc,hfx⟩:=HFS.out _ (List.getElem_mem hkl);generalize xs[k]=xf at *;obtain ⟨x,f⟩:=xf;simp only at hfx;subst hfx;obtain ⟨xk,xn,xd,xs'⟩:=x;have e0:wr.cell? ⟨b,off+k * 5,none⟩=some (.int .i64 xk):=hcells 0 _ rfl;have e1:wr.cell? ⟨b,off+k * 5+1,none⟩=some (.int .i64 xn):=hcells 1 _ rfl;have e2:wr.cell? ⟨b,off+k * 5+2,none⟩=some (.string (ak xd)):=hcells 2 _ rfl;have e3:wr.cell? ⟨b,off+k * 5+3,none⟩=some (.bool xs'):=hcells 3 _ rfl;have e4:wr.cell? ⟨b,off+k * 5+4,none⟩=some (.slice fs fl fc):=hcells 4 _ rfl;have HAH:=hid (show Ah w gp gs gm wr.heap.size ((wr.alloc (.cells #[.int .i64 xk,.int .i64 xn,.string (ak xd),.bool xs',.slice fs fl fc] 32)).alloc (.cells #[.string ⟨#[]⟩,.int .i64 0,.int .i64 0] 34)) L5 P5 W B ⟨xk,xn,xd,xs'⟩ (.slice fs fl fc) from Ah.of HR.out ⟨xk,xn,xd,xs'⟩ (.slice fs fl fc));clear hcells hkl hk70 hk hk7;go_upto_region 12 with fail
    generalize ((wr.alloc (.cells #[.int .i64 xk,.int .i64 xn,.string (ak xd),.bool xs',.slice fs fl fc] 32)).alloc (.cells #[.string ⟨#[]⟩,.int .i64 0,.int .i64 0] 34))=wa at *;clear e0 e1 e2 e3 e4;have a0:=aa HAH.out.bx 0;have a1:=aa HAH.out.bx 1;have a2:=aa HAH.out.bx 2;have a3:=aa HAH.out.bx 3;have a4:=aa HAH.out.bx 4;simp only [Ac.cells,List.getElem?_toArray,List.getElem?_cons_succ,List.getElem?_cons_zero] at a0 a1 a2 a3 a4;by_cases hin:1≤xk∧xk≤5
    ·obtain ⟨hi1,hi5⟩:=hin;go_upto_block 2 with fail
     go_cut [11,12,13,14] from 45 to 91 (fun _ _ _ _ wc=>Md w L5 P5 W B gs gm wr.heap.size ⟨xk,xn,xd,xs'⟩ (.slice fs fl fc) wc)
     case first=>
      by_cases h1:xk=1
      ·skip;subst h1;have HC:=hid (pB xn gs gm (aU W B) wa HAH.out.lp.sh);go_wp2_with fail;refine HC.out.mono ?_;rintro e w7 ⟨rfl,hsh,hch⟩;have HM:=hid (HAH.out.md hsh (hch.mono fun k _ e=>.inl e) (r:=(kp (aU W B) xn,0,bu (aU W B) xn)) rfl);have hy:=(HAH.out.shelf (hch.mono fun k _ e=>.inl e)).2;have y0:=aa hy 0;have y1:=aa hy 1;have y2:=aa hy 2;have yl:=af hy;have yz:=ab hy;have z0:=yz 0;have z1:=yz 1;have z2:=yz 2;clear hsh hch hy yz;unfold dW at y0 y1 y2;simp only [List.getElem?_toArray,List.getElem?_cons_succ,List.getElem?_cons_zero] at y0 y1 y2;unfold qW at HM;go_wp2_with fail;go_meet
       case rel=>exact HM.out
      by_cases h2:xk=2
      ·subst h2;obtain ⟨ps,hps⟩:∃ ps,Ac.put ⟨2,xn,xd,xs'⟩=ps:=⟨_,rfl⟩;have hdt:=fun w=>ly ⟨2,xn,xd,xs'⟩ (.slice fs fl fc) w
       rw [hps] at hdt;have HDT:=hid hdt;have HPS:=hid hps;clear hps hdt
       have HC:=hid (fun (w':World) (hp:ShIs w' gs gm (aU W B))=>show Calls Tryz.prog 30 #[.pointer (some ⟨gs,0,none⟩),.int .i64 xn,.string (ak ps)] w' fun e w2=>e=.returned (.int .i64 (fW (aU W B) xn ps))∧ShIs w2 gs gm (putS (aU W B) xn ps)∧Ch (fun k=>k=gs∨k=gm) w' w2 by
        have:=py xn (ak ps) gs gm (aU W B) w' hp;rw [aP] at this;exact this)
       unfold Ac.cells at HDT;simp only at HDT;go_upto_region 17 with fail
       go_region_held3 (fun w'=>w'.cell? ⟨wr.heap.size,0,none⟩=some (.int .i64 2)∧w'.cell? ⟨wr.heap.size,1,none⟩=some (.int .i64 xn)∧w'.cell? ⟨wr.heap.size,2,none⟩=some (.string (ak xd))∧w'.cell? ⟨wr.heap.size,3,none⟩=some (.bool xs')∧w'.cell? ⟨wr.heap.size,4,none⟩=some (.slice fs fl fc)) (first | exact ⟨e0,e1,e2,e3,e4⟩ | exact ⟨c0,c1,c2,c3,c4⟩ | exact ⟨b0,b1,b2,b3,b4⟩ | exact ⟨a0,a1,a2,a3,a4⟩)
        (first
         | (go_at_call 31;(with_reducible refine (HDT.out _).mono ?_);rintro e w2 ⟨rfl,hb2⟩;have HAH2:=hid (HAH.out.below (show Below wa.heap.size wa w2 from ((Below.refl wa.heap.size wa).drew).trans hb2));clear hb2;have b0:=aa HAH2.out.bx 0;have b1:=aa HAH2.out.bx 1;have b2:=aa HAH2.out.bx 2;have b3:=aa HAH2.out.bx 3;have b4:=aa HAH2.out.bx 4;simp only [Ac.cells,List.getElem?_toArray,List.getElem?_cons_succ,List.getElem?_cons_zero] at b0 b1 b2 b3 b4)
         | (go_at_call 30;(with_reducible refine (HC.out _ ?ba).mono ?_);(case ba=>exact HAH2.out.lp.sh);rintro e w3 ⟨rfl,hsh,hch⟩
            have HX3:=hid (HAH2.out.shelf hch);have HM:=hid (HAH2.out.md1 (w7:=w3) (by unfold tK;simp only [HPS.out];exact hsh) hch (e:=fW (aU W B) xn ps) (by unfold sL;simp only [HPS.out];rfl));have c0:=aa HX3.out.1 0;have c1:=aa HX3.out.1 1;have c2:=aa HX3.out.1 2;have c3:=aa HX3.out.1 3;have c4:=aa HX3.out.1 4;have e0:=aa HM.out.bx 0;have e1:=aa HM.out.bx 1;have e2:=aa HM.out.bx 2;have e3:=aa HM.out.bx 3;have e4:=aa HM.out.bx 4;simp only [Ac.cells,List.getElem?_toArray,List.getElem?_cons_succ,List.getElem?_cons_zero] at c0 c1 c2 c3 c4 e0 e1 e2 e3 e4;have hy:=(HX3.out).2;have y0:=aa hy 0;have y1:=aa hy 1;have y2:=aa hy 2;have yl:=af hy;have yz:=ab hy;have z0:=yz 0;have z1:=yz 1;have z2:=yz 2;clear hsh hch hy yz;unfold dW at y0 y1 y2;simp only [List.getElem?_toArray,List.getElem?_cons_succ,List.getElem?_cons_zero] at y0 y1 y2;skip))
       clear a0 a1 a2 a3 a4 b0 b1 b2 b3 b4 c0 c1 c2 c3 c4 e0 e1 e2 e3 e4 y0 y1 y2 yl z0 z1 z2;go_wp2_with fail;go_meet
       case rel=>exact HM.out
      by_cases h3:xk=3
      ·skip;subst h3;have HC:=hid (pA gs gm (aU W B) wa HAH.out.lp.sh);go_wp2_with fail;refine HC.out.mono ?_;rintro e w7 ⟨rfl,hsh,hch⟩;have HM:=hid (HAH.out.md hsh hch (r:=([],bH (aU W B),aG (aU W B))) rfl);have hy:=(HAH.out.shelf hch).2;have y0:=aa hy 0;have y1:=aa hy 1;have y2:=aa hy 2;have yl:=af hy;have yz:=ab hy;have z0:=yz 0;have z1:=yz 1;have z2:=yz 2;clear hsh hch hy yz;unfold dW at y0 y1 y2;simp only [List.getElem?_toArray,List.getElem?_cons_succ,List.getElem?_cons_zero] at y0 y1 y2;unfold qW at HM;go_wp2_with fail;go_meet
       case rel=>exact HM.out
      by_cases h4:xk=4
      ·skip;subst h4;have HC:=hid (nQ gs gm (aU W B) xn wa HAH.out.lp.sh);go_wp2_with fail;refine HC.out.mono ?_;rintro e w7 ⟨rfl,hsh,hch⟩;have HM:=hid (HAH.out.md1 hsh hch (e:=cD (aU W B) xn) rfl);have hy:=(HAH.out.shelf hch).2;have y0:=aa hy 0;have y1:=aa hy 1;have y2:=aa hy 2;have yl:=af hy;have yz:=ab hy;have z0:=yz 0;have z1:=yz 1;have z2:=yz 2;clear hsh hch hy yz;unfold dW at y0 y1 y2;simp only [List.getElem?_toArray,List.getElem?_cons_succ,List.getElem?_cons_zero] at y0 y1 y2;go_wp2_with fail;go_meet
       case rel=>exact HM.out
      by_cases h5:xk=5
      ·skip;subst h5;have HC:=hid (nN xn gs gm (aU W B) wa HAH.out.lp.sh);go_wp2_with fail;refine HC.out.mono ?_;rintro e w7 ⟨rfl,hsh,hch⟩;have HM:=hid (HAH.out.md1 hsh (hch.mono fun k _ e=>.inl e) (e:=lQ (aU W B) xn) rfl);have hy:=(HAH.out.shelf (hch.mono fun k _ e=>.inl e)).2;have y0:=aa hy 0;have y1:=aa hy 1;have y2:=aa hy 2;have yl:=af hy;have yz:=ab hy;have z0:=yz 0;have z1:=yz 1;have z2:=yz 2;clear hsh hch hy yz;unfold dW at y0 y1 y2;simp only [List.getElem?_toArray,List.getElem?_cons_succ,List.getElem?_cons_zero] at y0 y1 y2;go_wp2_with fail;go_meet
       case rel=>exact HM.out
      ·omega
     case rest=>
      have HMD:=hid hcut;have HDO:=hid (fun (w':World) (h:PgIs w' L5 P5)=>qy ⟨xk,xn,xd,xs'⟩ hi1 hi5 (.slice fs fl fc) w' h HAH.out.lp.st);have hba:=hcut.ba;clear hcut a0 a1 a2 a3 a4;obtain ⟨rs,rn,re,hr⟩:∃ rs rn re,sA W B ⟨xk,xn,xd,xs'⟩=(rs,rn,re):=⟨_,_,_,rfl⟩;rw [hr] at HDO hba;have HX:=hid (And.intro HMD.out.bx (show wc.heap[wr.heap.size+1]?=some (.cells #[.string (ak rs),.int .i64 rn,.int .i64 re] 34 (0,0)) from hba));clear hr hba;unfold Ac.cells au uQ oX at HDO;rw [HAH.out.lp.gp] at HDO;simp only at HDO;have as0:=aa HX.out.1 0;have as1:=aa HX.out.1 1;have as2:=aa HX.out.1 2;have as3:=aa HX.out.1 3;have as4:=aa HX.out.1 4;have as5:=aa HX.out.2 0;have as6:=aa HX.out.2 1;have as7:=aa HX.out.2 2;simp only [Ac.cells,List.getElem?_toArray,List.getElem?_cons_succ,List.getElem?_cons_zero] at as0 as1 as2 as3 as4 as5 as6 as7;have HPH:=hid (fun (w':World) (L':PgL) (P':Pgr) (W':He) (B':Int→By) (h:Lp w gp gs gm w' L' P' W' B')=>h.phead);have HSH:=hid (fun (w':World) (L':PgL) (P':Pgr) (W':He) (B':Int→By) (h:Lp w gp gs gm w' L' P' W' B')=>h.shead);go_upto_region 25 with fail
      go_region_held3 (fun w'=>w'.cell? ⟨wr.heap.size,0,none⟩=some (.int .i64 xk)∧w'.cell? ⟨wr.heap.size,1,none⟩=some (.int .i64 xn)∧w'.cell? ⟨wr.heap.size,2,none⟩=some (.string (ak xd))∧w'.cell? ⟨wr.heap.size,3,none⟩=some (.bool xs')∧w'.cell? ⟨wr.heap.size,4,none⟩=some (.slice fs fl fc)∧
       w'.cell? ⟨wr.heap.size+1,0,none⟩=some (.string (ak rs))∧w'.cell? ⟨wr.heap.size+1,1,none⟩=some (.int .i64 rn)∧w'.cell? ⟨wr.heap.size+1,2,none⟩=some (.int .i64 re)) (first | exact ⟨cs0,cs1,cs2,cs3,cs4,cs5,cs6,cs7⟩ | exact ⟨bs0,bs1,bs2,bs3,bs4,bs5,bs6,bs7⟩ | exact ⟨as0,as1,as2,as3,as4,as5,as6,as7⟩)
       (first
        | (go_at_call 12;(with_reducible refine (HDO.out _ ?ba).mono ?_);(case ba=>exact HMD.out.is.below ((Below.refl wc.heap.size wc).drew));rintro e w8 ⟨rfl,W',B',hn,hto0⟩
           have hto:=hto0.pre ((Below.refl wc.heap.size wc).drew);obtain ⟨L8,P8,hlp8⟩:=Lp.next HAH.out HMD.out hn hto;have HLP:=hid hlp8;have HX:=hid (And.intro (hto.keep HX.out.1 (fun hk=>by have:=HAH.out.x4 _ hk;omega)) (hto.keep HX.out.2 (fun hk=>by have:=HAH.out.x4 _ hk;omega)));have bs0:=aa HX.out.1 0;have bs1:=aa HX.out.1 1;have bs2:=aa HX.out.1 2;have bs3:=aa HX.out.1 3;have bs4:=aa HX.out.1 4;have bs5:=aa HX.out.2 0;have bs6:=aa HX.out.2 1;have bs7:=aa HX.out.2 2;simp only [Ac.cells,List.getElem?_toArray,List.getElem?_cons_succ,List.getElem?_cons_zero] at bs0 bs1 bs2 bs3 bs4 bs5 bs6 bs7;clear hn hto0 hto hlp8)
        | (go_at_call 13;(refine (HPH.out _ _ _ _ _ HLP.out).mono ?_);rintro e w9 ⟨rfl,hb9,hlp9⟩
           have HLP:=hid hlp9;have HX:=hid (And.intro (aw HX.out.1 hb9) (aw HX.out.2 hb9));have cs0:=aa HX.out.1 0;have cs1:=aa HX.out.1 1;have cs2:=aa HX.out.1 2;have cs3:=aa HX.out.1 3;have cs4:=aa HX.out.1 4;have cs5:=aa HX.out.2 0;have cs6:=aa HX.out.2 1;have cs7:=aa HX.out.2 2;simp only [Ac.cells,List.getElem?_toArray,List.getElem?_cons_succ,List.getElem?_cons_zero] at cs0 cs1 cs2 cs3 cs4 cs5 cs6 cs7;clear hb9 hlp9)
        | (go_at_call 35;(refine (HSH.out _ _ _ _ _ HLP.out).mono ?_);rintro e w10 ⟨rfl,hb10,hlp10⟩
           have HLP:=hid hlp10;have HX:=hid (And.intro (aw HX.out.1 hb10) (aw HX.out.2 hb10));have cs0:=aa HX.out.1 0;have cs1:=aa HX.out.1 1;have cs2:=aa HX.out.1 2;have cs3:=aa HX.out.1 3;have cs4:=aa HX.out.1 4;have cs5:=aa HX.out.2 0;have cs6:=aa HX.out.2 1;have cs7:=aa HX.out.2 2;simp only [Ac.cells,List.getElem?_toArray,List.getElem?_cons_succ,List.getElem?_cons_zero] at cs0 cs1 cs2 cs3 cs4 cs5 cs6 cs7;clear hb10 hlp10))
      all_goals
       clear as0 as1 as2 as3 as4 as5 as6 as7 bs0 bs1 bs2 bs3 bs4 bs5 bs6 bs7 cs0 cs1 cs2 cs3 cs4 cs5 cs6 cs7;go_wp2_with fail;go_roundw
       case rel=>exact ⟨k+1,by have:=HK.out;omega,by have:=HK.out;omega,by go_num,_,_,_,_,HLP.out⟩
       case measure=>simp [intOf];omega
    ·have n1:¬ xk=1:=fun e=>hin (by omega)
     have n2:¬ xk=2:=fun e=>hin (by omega)
     have n3:¬ xk=3:=fun e=>hin (by omega)
     have n4:¬ xk=4:=fun e=>hin (by omega)
     have n5:¬ xk=5:=fun e=>hin (by omega)
     clear hin;go_wp2_with fail;go_roundw
     case rel=>exact ⟨k+1,by have:=HK.out;omega,by have:=HK.out;omega,by go_num,_,_,_,_,HAH.out.lp⟩
     case measure=>simp [intOf];omega
   ·obtain rfl:k=70:=by omega
    have hk1:(70:Int)<(xs.length:Int):=by omega
    clear hk hk7 hk70;go_wp2_with fail;go_ret;exact ⟨rfl,HR.out.b⟩
  ·obtain rfl:k=xs.length:=by omega
   clear hk hkl;go_wp2_with fail;go_ret;exact ⟨rfl,HR.out.b⟩
theorem nD {w1 v1:World} (hR:v1.heap[w1.heap.size+1]?=some gg) (hB:Below w1.heap.size w1 v1) (h:Hd):
  (cB (v1.setCell ⟨w1.heap.size,1,none⟩ (.int .i64 h.pages)) (w1.heap.size+1) h).heap[w1.heap.size+1]?=some (bn h)∧Below w1.heap.size w1 (cB (v1.setCell ⟨w1.heap.size,1,none⟩ (.int .i64 h.pages)) (w1.heap.size+1) h):=by
 have h1:(v1.setCell ⟨w1.heap.size,1,none⟩ (.int .i64 h.pages)).heap[w1.heap.size+1]?=some (bn Hd.zero):=aX hR (a:=⟨w1.heap.size,1,none⟩) (by simp) (.int .i64 h.pages);have hc:Ch (fun k=>w1.heap.size≤k) v1 (cB (v1.setCell ⟨w1.heap.size,1,none⟩ (.int .i64 h.pages)) (w1.heap.size+1) h):=aZ ((Ch.refl (fun k=>w1.heap.size≤k) v1).setCell (p:=⟨w1.heap.size,1,none⟩) (Nat.le_refl _) _) (Nat.le_succ _) h;exact ⟨bU h1 h,hB.trans (hc.below hB.size fun k hk=>hk)⟩
theorem nE (W:He) (v:Value) (w1:World) (h0:W.spare=0) (hp4:W.pages<4096):
  Calls Tryz.prog 88 #[eH W,v] w1 fun e w'=>e=.returned (.tuple #[.int .i64 W.pages,eH { W with pages:=W.pages+1 },.int .i64 0])∧Below w1.heap.size w1 w':=by
 obtain ⟨hm,hp,ht,hs,hr,hc⟩:=W;simp only at h0 hp4;subst h0;unfold eH ko;simp only;go_enter Tryz.func88,Tryz.ntmps88;go_upto_region 1 with fail
 have HX1:=hid (aj (ah (w0:=w1) (g:=w1.heap.size) (o:=cX ⟨hm,hp,ht,0,hr,hc⟩) rfl) gg);have HR1:=hid (ah (w0:=w1.alloc (cX ⟨hm,hp,ht,0,hr,hc⟩)) (g:=w1.heap.size+1) (o:=gg) (by simp));have HB1:=hid (((Below.refl w1.heap.size w1).alloc (Nat.le_refl _) (cX ⟨hm,hp,ht,0,hr,hc⟩)).alloc (by simp) gg);obtain ⟨v1,hv1⟩:∃ v1,(w1.alloc (cX ⟨hm,hp,ht,0,hr,hc⟩)).alloc gg=v1:=⟨_,rfl⟩;rw [hv1] at HX1 HR1 HB1;change Code.wp _ _ _ _ ((w1.alloc (cX ⟨hm,hp,ht,0,hr,hc⟩)).alloc gg);rw [hv1];clear hv1;obtain ⟨a0,a1,a2,a3,a4,a5,a6⟩:=ct HX1.out;have a3:v1.cell? ⟨w1.heap.size,3,none⟩=some (.int .i64 0):=a3;have b1:=ab HX1.out 1;have c0:=aa HR1.out 0;have c1:=aa HR1.out 1;have c2:=aa HR1.out 2;have c3:=aa HR1.out 3;have c4:=aa HR1.out 4;have c5:=aa HR1.out 5;simp only [List.getElem?_toArray,List.getElem?_cons_zero,List.getElem?_cons_succ] at c0 c1 c2 c3 c4 c5;have c6:=af HR1.out;have d0:=ab HR1.out 0;have d1:=ab HR1.out 1;have d2:=ab HR1.out 2;have d3:=ab HR1.out 3;have d4:=ab HR1.out 4;have d5:=ab HR1.out 5;have hwr:IntKind.i64.wrap ((hp:Int)+1)=(hp:Int)+1:=by rw [IntKind.wrap_i64];omega
 have hp5:(hp:Int)<4096:=by omega
 go_wp2_with fail;go_region
 all_goals
  go_wp2_with fail;have HF:=hid (nD HR1.out HB1.out ⟨hm,hp+1,ht,0,hr,hc⟩);obtain ⟨q0,q1,q2,q3,q4,q5,q6⟩:=ag HF.out.1;generalize hwf:cB (v1.setCell ⟨w1.heap.size,1,none⟩ (.int .i64 ((hp:Int)+1))) (w1.heap.size+1) ⟨hm,hp+1,ht,0,hr,hc⟩=wf at *;have hwf2:((((((v1.setCell ⟨w1.heap.size,1,none⟩ (.int .i64 ((hp:Int)+1))).setCell ⟨w1.heap.size+1,0,none⟩ (.int .i64 hm)).setCell ⟨w1.heap.size+1,1,none⟩ (.int .i64 ((hp:Int)+1))).setCell ⟨w1.heap.size+1,2,none⟩ (.int .i64 ht)).setCell ⟨w1.heap.size+1,3,none⟩ (.int .i64 0)).setCell ⟨w1.heap.size+1,4,none⟩ (.int .i64 hr)).setCell ⟨w1.heap.size+1,5,none⟩ (.int .u64 hc)=wf:=hwf;rw [hwf2];exact bodyPost_ret (v:=.tuple #[.int .i64 hp,.agg #[.int .i64 hm,.int .i64 ((hp:Int)+1),.int .i64 ht,.int .i64 0,.int .i64 hr,.int .u64 hc],.int .i64 0]) (by simp [results,Tryz.results88,go_sem,q0,q1,q2,q3,q4,q5]) rfl ⟨rfl,(by first | exact HF.out.2 | exact HF.out.2.drew | exact HF.out.2.drew.drew)⟩
def Pgr.new0 (P:Pgr):Pgr:={ (({ P with work:={ P.work with pages:=P.work.pages+1 } }:Pgr).hold P.work.pages cy true) with wrote:=true }
theorem nY (w:World) {L:PgL} {P:Pgr} (h:PgIs w L P) (hu:P.Up) (hb:P.busy=true) (hs:P.work.spare=0) (hp:P.work.pages<4096) (hbase:P.base≤P.work.pages) (hsv:P.saves=[])
  (hl:(({ P with work:={ P.work with pages:=P.work.pages+1 } }:Pgr).gone P.work.pages cy true).length≤1000) (hc:bw (({ P with work:={ P.work with pages:=P.work.pages+1 } }:Pgr).putc P.work.pages cy true) (({ P with work:={ P.work with pages:=P.work.pages+1 } }:Pgr).gone P.work.pages cy true)):
  Calls Tryz.prog 37 #[au L.gp] w fun e w'=>e=.returned (.tuple #[.int .i64 P.work.pages,.int .i64 0])∧PTo w L P.new0 w':=by
 obtain ⟨H,hH⟩:∃ H,H={ P.work with pages:=P.work.pages+1 }:=⟨_,rfl⟩;rw [← hH] at hl hc;have HHH:=hid hH;have HO:=hid (And.intro hbase (And.intro hsv (And.intro hl (And.intro hc hp))));have HTK:=hid (fun (v:Value) (w1:World)=>nE P.work v w1 hs hp);rw [← hH] at HTK;have hhp:H.pages=P.work.pages+1:=by rw [hH]
 have HHP:=hid hhp;unfold eH ko at HTK;clear hs hp hbase hsv hl hc hH hhp;have hA:Below w.heap.size w (w.alloc (.cells #[.bool true] 4)):=(Below.refl _ w).alloc (Nat.le_refl _) _;have hX:(w.alloc (.cells #[.bool true] 4)).heap[w.heap.size]?=some (.cells #[.bool true] 4 (0,0)):=ah rfl;have HB:=hid (aN true w.heap.size _ (h.below hA) hu (aa hX 0) (af hX));rw [hb,show fG (some true) true=0 from rfl] at HB;have HA:=hid hA;have HH:=hid h;have HU:=hid (And.intro hu hb);unfold au at *;clear h hu hb hA hX;go_enter Tryz.func37,Tryz.ntmps37;go_wp2_with fail;refine HB.out.mono ?_;rintro e w1 ⟨rfl,hb1⟩;have HB1:=hid (HA.out.trans (hb1.mono HA.out.size));have HP1:=hid (HH.out.below HB1.out);have hC:=ai HP1.out.blk;have hlt:=hC.lt;have c15:=hC.c15;have c16:=hC.c16;have c17:=hC.c17;have c18:=hC.c18;have c19:=hC.c19;have c20:=hC.c20;clear hb1 hC;go_wp2_with fail;refine (HTK.out _ w1).mono ?_;rintro e w2 ⟨rfl,hb2⟩;have HB2:=hid hb2;have hX3:(w2.alloc (cX H)).heap[w2.heap.size]?=some (cX H):=ah rfl;have hA3:Below w2.heap.size w2 (w2.alloc (cX H)):=(Below.refl _ w2).alloc (Nat.le_refl _) _;have HX3:=hid hX3;have HA3:=hid (HB1.out.trans ((hb2.trans (hA3.mono hb2.size)).mono HB1.out.size));have HP3:=hid (HH.out.below HA3.out);clear hb2 hX3 hA3;go_upto_region 7 with fail
 have hw3:∃ w3,w2.alloc (cX H)=w3:=⟨_,rfl⟩;obtain ⟨w3,hw3⟩:=hw3;change Code.wp _ _ _ _ (w2.alloc (cX H));rw [hw3] at HX3 HA3 HP3 ⊢;clear hw3;obtain ⟨x0,x1,x2,x3,x4,x5,xl⟩:=ct HX3.out;have hC:=ai HP3.out.blk;have c15:=hC.c15;have c16:=hC.c16;have c17:=hC.c17;have c18:=hC.c18;have c19:=hC.c19;have c20:=hC.c20;have z15:=hC.fz 15;have z16:=hC.fz 16;have z17:=hC.fz 17;have z18:=hC.fz 18;have z19:=hC.fz 19;have z20:=hC.fz 20;have hlt:=hC.lt;have hW:PgIs ((((((w3.setCell ⟨L.gp,15,none⟩ (.int .i64 H.mode)).setCell ⟨L.gp,16,none⟩ (.int .i64 H.pages)).setCell ⟨L.gp,17,none⟩ (.int .i64 H.trunk)).setCell ⟨L.gp,18,none⟩ (.int .i64 H.spare)).setCell ⟨L.gp,19,none⟩ (.int .i64 H.root)).setCell ⟨L.gp,20,none⟩ (.int .u64 H.change)) L { P with work:=H }∧Ch (fun k=>k=L.gp) w3 ((((((w3.setCell ⟨L.gp,15,none⟩ (.int .i64 H.mode)).setCell ⟨L.gp,16,none⟩ (.int .i64 H.pages)).setCell ⟨L.gp,17,none⟩ (.int .i64 H.trunk)).setCell ⟨L.gp,18,none⟩ (.int .i64 H.spare)).setCell ⟨L.gp,19,none⟩ (.int .i64 H.root)).setCell ⟨L.gp,20,none⟩ (.int .u64 H.change)):=by have hc:=((((((Ch.refl (fun k=>k=L.gp) w3).setCell (p:=⟨L.gp,15,none⟩) rfl (.int .i64 H.mode)).setCell (p:=⟨L.gp,16,none⟩) rfl (.int .i64 H.pages)).setCell (p:=⟨L.gp,17,none⟩) rfl (.int .i64 H.trunk)).setCell (p:=⟨L.gp,18,none⟩) rfl (.int .i64 H.spare)).setCell (p:=⟨L.gp,19,none⟩) rfl (.int .i64 H.root)).setCell (p:=⟨L.gp,20,none⟩) rfl (.int .u64 H.change);exact ⟨HP3.out.setBlk hc (dH HP3.out.blk H) rfl rfl rfl rfl rfl ⟨HP3.out.ok.s1,HP3.out.ok.s2,HP3.out.ok.base,HP3.out.ok.hp,by have:=HO.out.2.2.2.2;have:=HHP.out;show H.pages≤4096;omega,HP3.out.ok.nos⟩,hc⟩
 have HWW:=hid hW;clear hW hC;go_upto_region 8 with fail
 generalize (((((w3.setCell ⟨L.gp,15,none⟩ (.int .i64 H.mode)).setCell ⟨L.gp,16,none⟩ (.int .i64 H.pages)).setCell ⟨L.gp,17,none⟩ (.int .i64 H.trunk)).setCell ⟨L.gp,18,none⟩ (.int .i64 H.spare)).setCell ⟨L.gp,19,none⟩ (.int .i64 H.root)).setCell ⟨L.gp,20,none⟩ (.int .u64 H.change)=w4 at *;clear x0 x1 x2 x3 x4 x5 xl c15 c16 c17 c18 c19 c20 z15 z16 z17 z18 z19 z20 hlt;go_wp2_with fail;refine (io w4).mono ?_;rintro e w5 ⟨rfl,hb5⟩;have HB5:=hid hb5;have HF:=hid (cV P.work.pages cy w5 (HWW.out.1.below hb5) HO.out.1 HO.out.2.1 HO.out.2.2.2.2 HO.out.2.2.1 HO.out.2.2.2.1);unfold au at HF;clear hb5;go_wp2_with fail;refine HF.out.mono ?_;rintro e w6 ⟨rfl,L6,g6,p6,f6,k6⟩;have HDN:=hid (cF w6 p6);have HT:=hid (And.intro g6 (And.intro f6 k6));rw [g6] at HDN;unfold au at HDN;clear g6 p6 f6 k6;go_wp2_with fail;refine HDN.out.mono ?_;rintro e w7 ⟨rfl,hr⟩;have HR:=hid (show PTo w L P.new0 w7 from by
  unfold Pgr.new0;rw [← HHH.out];refine PTo.pre ?_ HA3.out;refine PTo.and rfl (fun _ hk=>.inl hk) (HWW.out.2.mono fun k _ e=>.inl e) (PTo.pre ?_ HB5.out);exact PTo.and HT.out.1 HT.out.2.1 HT.out.2.2 hr)
 clear hr;go_wp2_with fail;go_ret2;exact ⟨rfl,HR.out⟩
def Pgr.hasN (P:Pgr) (n:Nat):Bool:=match P.notes with
 | none=>false
 | some j=>j.has n
def Pgr.fj (P:Pgr) (n:Nat):Bool:=decide (n<P.base) && !P.hasN n
def kx (n:Nat) (s:Sv):Bool:=decide (n<s.head.pages)
def Pgr.any (P:Pgr) (n:Nat):Bool:=P.saves.any (kx n)
def Pgr.hasI (P:Pgr) (n:Nat):Bool:=match P.saves.getLast? with
 | none=>false
 | some s=>(aQ s.im (n:Int)).isSome
def Pgr.fs (P:Pgr) (n:Nat):Bool:=!P.saves.isEmpty && (P.any n && !P.hasI n)
def aR (n:Nat) (p:He × Nat):Bool:=decide (n<p.1.pages)
def oW (p:He × Nat):Obj:=.cells (je p).toArray 114 (0,0)
def pq (p:He × Nat):Value:=.agg #[.int .i64 p.1.mode,.int .i64 p.1.pages,.int .i64 p.1.trunk,.int .i64 p.1.spare,.int .i64 p.1.root,.int .u64 p.1.change,.map (some p.2)]
theorem mG (n:Nat) (p:He × Nat) (g:Nat) (w:World) (hg:w.cell? ⟨g,0,none⟩=some (.int .i64 n)) (hl:g<w.heap.size):
  Calls Tryz.prog 200 #[pq p,.pointer (some ⟨g,0,none⟩)] w fun e w'=>e=.returned (.bool (aR n p))∧Below w.heap.size w w':=by
 have HA:=hid ((Below.refl _ w).alloc (Nat.le_refl _) (oW p));unfold pq;go_enter Tryz.func200,Tryz.ntmps200;by_cases h:n<p.1.pages
 ·have h1:(n:Int)<(p.1.pages:Int):=by omega
  go_wp2_with fail;go_ret;exact ⟨by simp [aR,h],HA.out⟩
 ·have h1:¬ (n:Int)<(p.1.pages:Int):=by omega
  go_wp2_with fail;go_ret;exact ⟨by simp [aR,h],HA.out⟩
theorem mX {α:Type} {p:α→Bool} {xs:List α} {k:Nat} (hn:∀ j (h:j<xs.length),j<k→p xs[j]=false) (hk:k<xs.length) (h:p xs[k]=false):∀ j (h:j<xs.length),j<k+1→p xs[j]=false:=fun j hj hjk=>by
 rcases Nat.lt_succ_iff_lt_or_eq.1 hjk with h1 | rfl
 ·exact hn j hj h1
 ·exact h
theorem mx (n:Nat) (g:Nat) (v:Value) (xs:List (He × Nat)) (w:World) (h:Sl je 7 w v xs) (hl:xs.length≤1000000) (hg:w.cell? ⟨g,0,none⟩=some (.int .i64 n)) (hgl:g<w.heap.size):
  Calls Tryz.prog 206 #[v,.func (Fn.func 200) #[] #[.pointer (some ⟨g,0,none⟩)]] w fun e w'=>e=.returned (.int .i64 (bB (aR n) xs))∧Below w.heap.size w w':=by
 obtain ⟨A,c,rfl⟩:=Sl.len' h;have H:=hid h;have HG:=hid (And.intro hg hgl);clear h hg hgl;go_enter Tryz.func206,Tryz.ntmps206;go_wp2_with fail;go_loopw [8] (fun i wr=>∃ k:Nat,k≤xs.length∧i=.int .i64 k∧(∀ j (h:j<xs.length),j<k→aR n xs[j]=false)∧Below w.heap.size w wr) (fun i _=>xs.length - (intOf i).toNat)
 case atStart=>exact ⟨0,Nat.zero_le _,rfl,fun _ _ h=>absurd h (Nat.not_lt_zero _),Below.refl _ _⟩
 case round=>
  obtain ⟨k,hk,rfl,hno,hb⟩:=hrel;have HN:=hid hno;have HB:=hid hb;clear hno hb;by_cases hlt:k<xs.length
  ·obtain ⟨b,off,c',he,hbl,hcells⟩:=(H.out.keep HB.out).at1 hlt;injection he with he1 he2 he3
   subst he1 he3;have hk0:(0:Int)≤(k:Int):=by omega
   have hk1:(k:Int)<(xs.length:Int):=by omega
   have HI:=hid (show aR n xs[k]=true→bB (aR n) xs=k from fun h=>eR hlt h HN.out);have HU:=hid (show aR n xs[k]=false→∀ j (h:j<xs.length),j<k+1→aR n xs[j]=false from fun h=>mX HN.out hlt h);generalize xs[k]=x at *;have e0:wr.cell? ⟨b,off+k * 7,none⟩=some (.int .i64 x.1.mode):=hcells 0 _ rfl;have e1:wr.cell? ⟨b,off+k * 7+1,none⟩=some (.int .i64 x.1.pages):=hcells 1 _ rfl;have e2:wr.cell? ⟨b,off+k * 7+2,none⟩=some (.int .i64 x.1.trunk):=hcells 2 _ rfl;have e3:wr.cell? ⟨b,off+k * 7+3,none⟩=some (.int .i64 x.1.spare):=hcells 3 _ rfl;have e4:wr.cell? ⟨b,off+k * 7+4,none⟩=some (.int .i64 x.1.root):=hcells 4 _ rfl;have e5:wr.cell? ⟨b,off+k * 7+5,none⟩=some (.int .u64 x.1.change):=hcells 5 _ rfl;have e6:wr.cell? ⟨b,off+k * 7+6,none⟩=some (.map (some x.2)):=hcells 6 _ rfl;have HBL:=hid (mG n x g wr ((HB.out.cell (p:=⟨g,0,none⟩) HG.out.2).trans HG.out.1) (Nat.lt_of_lt_of_le HG.out.2 HB.out.size));unfold pq at HBL;clear hcells;go_wp2_with fail;refine HBL.out.mono ?_;rintro e w' ⟨rfl,hb⟩;have HB2:=hid (HB.out.trans (hb.mono HB.out.size));clear hb;cases hx:aR n x
   ·have HX:=hid (HU.out hx);go_wp2_with fail;go_roundw
    case rel=>exact ⟨k+1,by omega,by go_num,HX.out,HB2.out⟩
    case measure=>simp [intOf];omega
   ·have HX:=hid (HI.out hx);go_wp2_with fail;go_ret;exact ⟨by rw [HX.out];rfl,HB2.out⟩
  ·have HX:=hid (dR (p:=aR n) hlt HN.out);go_wp2_with fail;go_ret;exact ⟨by rw [HX.out];rfl,HB.out⟩
theorem ja (n:Nat) (g:Nat) (v:Value) (xs:List (He × Nat)) (w:World) (h:Sl je 7 w v xs) (hl:xs.length≤1000000) (hg:w.cell? ⟨g,0,none⟩=some (.int .i64 n)) (hgl:g<w.heap.size):
  Calls Tryz.prog 147 #[v,.func (Fn.func 200) #[] #[.pointer (some ⟨g,0,none⟩)]] w fun e w'=>e=.returned (.bool (xs.any (aR n)))∧Below w.heap.size w w':=by
 go_enter Tryz.func147,Tryz.ntmps147;go_wp2_with fail;refine (mx n g v xs w h hl hg hgl).mono ?_;rintro e w' ⟨rfl,hb⟩;have HB:=hid hb;clear hb;have HF:=hid (eQ (aR n) xs);generalize bB (aR n) xs=m at *;go_wp2_with fail;go_ret;exact ⟨by rw [← HF.out];rfl,HB.out⟩
theorem cN (p:He × Nat):(je p).length=7:=rfl
theorem SvIs.last {w:World} {v:Value} {gs:List Nat} {l:List Sv} (h:SvIs w v gs l) {k:Nat} (hk:l.length=k+1):∃ b off c g s,v=.slice (some ⟨b,off,none⟩) (k+1) c∧b<w.heap.size∧w.cell? ⟨b,off+k * 7+6,none⟩=some (.map (some g))∧l.getLast?=some s∧l[k]?=some s∧gs[k]?=some g∧fI w g s.im:=by
 have hgl:=h.len;have hkl:k<l.length:=by omega
 have hkg:k<gs.length:=by omega
 have hz:((l.map (·.head)).zip gs).length=k+1:=by rw [List.length_zip,List.length_map,hgl,Nat.min_self,hk]
 obtain ⟨b,off,c,hv,hb,hc⟩:=(h.row.sl cN).at1 (k:=k) (by omega);refine ⟨b,off,c,gs[k],l[k],by rw [hv,hz],hb,?_,?_,List.getElem?_eq_getElem hkl,List.getElem?_eq_getElem hkg,?_⟩
 ·refine hc 6 _ ?_;rw [List.getElem_zip];rfl
 ·rw [List.getLast?_eq_getElem?,hk];exact List.getElem?_eq_getElem hkl
 ·refine h.im (gs[k],l[k]) ?_;rw [← List.getElem_zip (h:=by rw [List.length_zip];omega)];exact List.getElem_mem _
theorem jK (n:Nat) {l:List Sv} {gs:List Nat} (h:gs.length=l.length):((l.map (·.head)).zip gs).any (aR n)=l.any (kx n):=by
 induction l generalizing gs with
 | nil=>simp
 | cons s l ih=>
   cases gs with
   | nil=>cases h
   | cons g gs=> rw [List.map_cons,List.zip_cons_cons,List.any_cons,List.any_cons,ih (by simpa using h)];rfl
theorem kS (n:Nat) (w:World) {L:PgL} {P:Pgr} (h:PgIs w L P) (hn:n<4096):
  Calls Tryz.prog 140 #[au L.gp,.int .i64 n] w fun e w'=>e=.returned (.tuple #[.bool (P.fj n),.bool (P.fs n)])∧Below w.heap.size w w':=by
 have hA:Below w.heap.size w (w.alloc (.cells #[.int .i64 n] 3)):=(Below.refl _ w).alloc (Nat.le_refl _) _;have HA:=hid hA;have hX:(w.alloc (.cells #[.int .i64 n] 3)).heap[w.heap.size]?=some (.cells #[.int .i64 n] 3 (0,0)):=ah rfl;have HH:=hid (h.below hA);have HX:=hid hX;unfold au at *;clear hA hX h;go_enter Tryz.func140,Tryz.ntmps140;go_upto_region 1 with fail
 have hw0:∃ w0,w.alloc (.cells #[.int .i64 n] 3)=w0:=⟨_,rfl⟩;obtain ⟨w0,hw0⟩:=hw0;rw [hw0] at HA HH HX ⊢;clear hw0;obtain ⟨r,hr⟩:∃ r,P.fj n=r:=⟨_,rfl⟩;have HR:=hid hr;clear hr;go_cut [6] from 10 to 31 (fun c wx=>c=.bool r∧Below w0.heap.size w0 wx)
 case first=>
  have hC:=ai HH.out.blk;have hl:=hC.lt;have x0:=aa HX.out 0;have xl:=af HX.out;simp only [List.getElem?_toArray,List.getElem?_cons_zero] at x0;have c9:=hC.c9;have c8:=hC.c8;have c24:=hC.c24;have f8:=aE c8 hl;have f9:=aE c9 hl;have fx:=aE x0 xl;by_cases hbn:n<P.base
  ·have hbn2:decide (n<P.base)=true:=decide_eq_true hbn;have hr2:=HR.out;unfold Pgr.fj at hr2;rw [hbn2,Bool.true_and] at hr2;rcases HH.out.jn with ⟨hN,hno⟩ | ⟨gj,x,hN,hno,hx⟩
   ·have hrt:r=true:=by unfold Pgr.hasN at hr2;rw [hno] at hr2;exact hr2.symm
    rw [hN] at c24;unfold ep at c24;have f24:=aE c24 hl;have HNL:=hid (fun w=>qe (n:Int) w);have HRT:=hid hrt;clear hC c8 c9 c24 x0 xl hr2 hN hno hbn hrt;refine ar (by kernel_rfl) (by kernel_rfl) ?_
    repeat (go_big_quiet_step (first
     | (go_at_call 199;(with_reducible exact bd (HNL.out _)))))
    refine wpQuiet_nil ?_;rintro w' ⟨⟨w2,hb2⟩,rfl⟩;go_wp2_with fail;go_meet
    case rel=>exact ⟨by rw [HRT.out],hb2⟩
   ·have hrt:r=!(x.has n):=by unfold Pgr.hasN at hr2;rw [hno] at hr2;exact hr2.symm
    rw [hN] at c24;unfold ep au at c24;have f24:=aE c24 hl;have HNL:=hid (fun (y:Up w0)=>qg x n y.w (hx.ch (S:=fun _=>False) (Ch.of_below y.h) id id) (cR (by omega)));unfold au at HNL;rw [show (aQ x.noted (n:Int)).getD false=x.has n from rfl] at HNL;have HRT:=hid hrt;generalize x.has n=y at *;clear hC c8 c9 c24 x0 xl hr2 hN hno hbn hrt hx;refine ar (by kernel_rfl) (by kernel_rfl) ?_
    repeat (go_big_quiet_step (first
     | (go_at_call 199;(with_reducible exact bd (HNL.out _)))))
    refine wpQuiet_nil ?_;rintro w' ⟨⟨w2,hb2⟩,rfl⟩;go_wp2_with fail;go_meet
    case rel=>exact ⟨by rw [HRT.out],hb2⟩
  ·have hbn2:decide (n<P.base)=false:=decide_eq_false hbn;have hrt:r=false:=by rw [← HR.out];unfold Pgr.fj;rw [hbn2];rfl
   have HRT:=hid hrt;clear hC c8 c9 c24 x0 xl hbn hrt;refine ar (by kernel_rfl) (by kernel_rfl) ?_
   repeat (go_big_quiet_step (fail))
   refine wpQuiet_nil ?_;rintro w' ⟨⟨w2,hb2⟩,rfl⟩;go_wp2_with fail;go_meet
   case rel=>exact ⟨by rw [HRT.out],hb2⟩
 case rest=>
 obtain ⟨rfl,hb1⟩:=hcut;have HB1:=hid (HA.out.trans (hb1.mono HA.out.size));have HB0:=hid hb1;have hP1:=HH.out.below hb1;have hC:=ai hP1.blk;have hl:=hC.lt;have c21:=hC.c21;rcases hs:P.saves with _ | ⟨s0,ss⟩
 ·obtain ⟨A,c,hv,-⟩:=ey hP1.sv;rw [hs] at hv;rw [hv] at c21;have HF:=hid (show P.fs n=false by unfold Pgr.fs;rw [hs];rfl);clear hb1 hC hP1 hv hs;go_wp2_with fail;go_ret2;exact ⟨by rw [HF.out,HR.out];rfl,HB1.out⟩
 ·have hlk:P.saves.length=ss.length+1:=by rw [hs];rfl
  obtain ⟨b,off,c,g,s,hv,hbl,hcell,hlast,-,-,him⟩:=hP1.sv.last hlk;have hnos:=HH.out.ok.nos;rw [hlk] at hnos;have hlook:=him.look2 sD (a:=(n:Int)) (cR (by omega));obtain ⟨sv,hsv⟩:∃ sv,mV sw (.string ⟨#[]⟩) (aQ s.im (n:Int))=.string sv:=by
   cases aQ s.im (n:Int) with
   | none=>exact ⟨_,rfl⟩
   | some x=>exact ⟨_,rfl⟩
  have hlook2:=(him.ch (S:=fun _=>False) (Ch.drew (Ch.refl _ _)) id).look2 sD (a:=(n:Int)) (cR (by omega));rw [hsv] at hlook hlook2;have HF:=hid (show P.fs n=(P.any n && !(aQ s.im (n:Int)).isSome) by unfold Pgr.fs Pgr.hasI;rw [hlast,hs];rfl);have HAN:=hid (jK n HH.out.sv.len);have HCT:=hid (fun (w':World) (hb:Below w0.heap.size w0 w')=>ja n w.heap.size L.vs ((P.saves.map (·.head)).zip L.gs) w' ((HH.out.below hb).sv.row.sl cN) (by rw [List.length_zip,List.length_map];omega) ((hb.cell (p:=⟨w.heap.size,0,none⟩) (af HX.out)).trans (aa HX.out 0)) (Nat.lt_of_lt_of_le (af HX.out) hb.size));rw [HAN.out,show P.saves.any (kx n)=P.any n from rfl,hv] at HCT;rw [hv] at c21;generalize (aQ s.im (n:Int)).isSome=q at *;generalize P.any n=p at *;have hx0:=(hb1.cell (p:=⟨w.heap.size,0,none⟩) (af HX.out)).trans (aa HX.out 0);simp only [List.getElem?_toArray,List.getElem?_cons_zero] at hx0;have hxl:=Nat.lt_of_lt_of_le (af HX.out) hb1.size;generalize ss.length=k at *;have hwr:IntKind.i64.wrap ((k:Int)+1 - 1)=(k:Int):=by rw [IntKind.wrap_i64];omega
  have hwk:IntKind.i64.wrap (k:Int)=(k:Int):=by rw [IntKind.wrap_i64];omega
  have hk0:(0:Int)≤(k:Int):=by omega
  have hk2:(k:Int)<(k:Int)+1:=by omega
  have hk3:((k:Int)+1 == 0)=false:=by simp;omega
  unfold rJ at hlook hlook2;clear hb1 hC hP1 hv hs hlk hlast him hsv;go_wp2_with fail;go_region;go_wp2_with fail;refine (HCT.out _ (by first | exact HB0.out | exact HB0.out.drew)).mono ?_;rintro e w5 ⟨rfl,hb5⟩;have HB5:=hid (show Below w.heap.size w w5 from HB1.out.trans ((show Below wc.heap.size wc w5 from by first | exact hb5 | exact ((Below.refl wc.heap.size wc).drew).trans hb5).mono HB1.out.size));clear hb5;cases p
  ·go_wp2_with fail;go_ret2;exact ⟨by rw [HF.out,HR.out];rfl,HB5.out⟩
  ·go_wp2_with fail;go_ret2;exact ⟨by rw [HF.out,HR.out];rfl,HB5.out⟩
end Go.Proofs.YtdmhbgpejppbkaaGreat
