/- disk.On: fated walked. disk.On with nothing fated: the walk. disk.On with nothing fated: On walked. awake's states, plain. awake's states: what each call wants. -/
import Derived.Test.YtdmhbgpejppbkaaGreatXGbv
import Derived.Test.YtdmhbgpejppbkaaGreatXGbl
import Derived.Test.YtdmhbgpejppbkaaGreatXGar
import Derived.Test.YtdmhbgpejppbkaaGreatXGbo
import Derived.Test.YtdmhbgpejppbkaaGreatXGbp
set_option maxRecDepth 100000
set_option maxHeartbeats 4000000
namespace Go.Proofs.YtdmhbgpejppbkaaGreat
open Go.Lib (hid)
open Go.RowKit Go.Maps
theorem kz {w:World} {p:Addr} {v:Value} {o:Obj} (h:w.cell? p=some v) (hl:p.block<w.heap.size):(w.alloc o).cell? p=some v:=(((Below.refl w.heap.size w).alloc (Nat.le_refl _) o).cell hl).trans h
theorem tE {w:World} {p q:Addr} {v u:Value} (h:w.cell? p=some v) (hn:p.block≠q.block):(w.setCell q u).cell? p=some v:=((Ch.refl (fun k=>k=q.block) w).setCell (p:=q) rfl u).cell h hn
theorem uT (gf gu:Nat) (w:World) {C:Nat→Prop} {E:Nat→By} {g:Nat} {m:FilM} {f:Fi} (h:FilIs w C E g m f) (hok:f.Ok) (hC:∀ k,C k→k<w.heap.size) (hd:∀ k,m.own g k→¬ C k) (hf:w.cell? ⟨gf,0,none⟩=some (.slice none 0 0)) (hl:gf<w.heap.size) (hno:¬ m.own g gf):
  Calls Tryz.prog 61 #[ai g,.func (.func 59) #[] #[.pointer (some ⟨gf,0,none⟩),.pointer (some ⟨gu,0,none⟩)]] w fun e w'=>e=.returned (.tuple #[])∧∃ (C':Nat→Prop) (m':FilM),
   FilIs w' C' (zE w.heap.size E) g m' f.fate∧(∀ k,C k→C' k)∧(∀ k,C' k→C k∨w.heap.size≤k)∧(∀ k,C' k→¬ C k→w'.heap[k]?=some (fk (zE w.heap.size E k)))∧(∀ k,m'.own g k→m.own g k∨w.heap.size≤k)∧(∀ k,m'.own g k→¬ C' k)∧Ch (m.own g) w w':=by
 have HH:=hid h;have HOK:=hid (And.intro hC hd);have hn:=hok.n;have hlw:=hok.lw;have hls:=hok.ls;obtain ⟨Aw,cw,hvw,-⟩:=aD h.ow;obtain ⟨As,cs,hvs,hcs⟩:=aD h.os;have hqs:m.qs.length=f.now.length:=by rw [← hls,h.safe,List.length_map]
 have HV:=hid (And.intro hvw (And.intro hvs (And.intro hcs hqs)));obtain ⟨b0,b1,b2,b3,hgl,hfz⟩:=bd h.blk;rw [hvw,hlw] at b2;have hva:=hid (show ∀ n c,(Value.slice As n c).ownBlock=m.vs.ownBlock from fun n c=>by rw [hvs];exact fD _ _ _ _ _);have HF:=hid (And.intro hf (And.intro hl hno));have HLW:=hid hlw;unfold ai;clear h hok hfz b0 b1 b3 hvw hvs hcs hC hd hf hl hno;go_enter Tryz.func61,Tryz.ntmps61;go_wp2_with fail;clear b2;go_loopw [13] (fun iv wr=>∃ k:Nat,k≤f.now.length∧iv=.int .i64 k∧Below w.heap.size w wr) (fun iv _=>f.now.length - (intOf iv).toNat)
 case atStart=>exact ⟨0,Nat.zero_le _,rfl,Below.refl _ _⟩
 case round=>
  obtain ⟨k,hk,rfl,hb⟩:=hrel;have HB:=hid hb;by_cases hlt:k<f.now.length
  ·have hk0:(0:Int)≤(k:Int):=by omega
   have hk1:(k:Int)<(f.now.length:Int):=by omega
   have hlt2:k<f.waits.length:=by rw [HLW.out];exact hlt
   obtain ⟨b,c',hv,hbl,hcell,-⟩:=fI HH.out.ow gC hlt2;have hv2:=HV.out.1;rw [hv] at hv2;injection hv2 with e1 e2 e3
   subst e1 e3;have hc1:wr.cell? ⟨b,k,none⟩=some (.bool f.waits[k]):=(hb.cell (p:=⟨b,k,none⟩) hbl).trans (hcell _ rfl);have hbl2:b<wr.heap.size:=Nat.lt_of_lt_of_le hbl hb.size;have HLO:=hid (wk gf gu wr ((hb.cell (p:=⟨gf,0,none⟩) HF.out.2.1).trans HF.out.1));have HK:=hid (And.intro hk hlt);generalize f.waits[k]=x at *;clear hb hv hcell hbl hlt2 hk e2;cases x
   ·go_wp2_with fail;go_roundw
    case rel=>exact ⟨k+1,by have:=HK.out;omega,by go_num,HB.out⟩
    case measure=>simp [intOf];omega
   ·go_wp2_with fail;refine HLO.out.mono ?_;rintro e w2 ⟨rfl,rfl⟩;go_wp2_with fail;go_roundw
    case rel=>exact ⟨k+1,by have:=HK.out;omega,by go_num,HB.out⟩
    case measure=>simp [intOf];omega
  ·obtain rfl:k=f.now.length:=by omega
   clear hlt hk;go_wp2_with fail;have HI0:=hid (FateI.start HH.out HV.out.2.1 HB.out);obtain ⟨wo,hwo⟩:∃ wo:World,wo=wr:=⟨_,rfl⟩;subst hwo;clear hb;go_loopw [] (fun w1=>∃ k:Nat,FateI w E g m As cs f k w1) (fun w1=>rj (w1.cell? ⟨g,1,none⟩))
   case atStart=>exact ⟨_,HI0.out⟩
   case round=>
    obtain ⟨k,hI⟩:=hrel;have HI:=hid hI;obtain ⟨r0,r1,r2,r3,rl,rf⟩:=bd (m:=⟨m.vn,.slice As k cs,m.vw,m.ps,m.qs⟩) hI.rw_.blk;simp only at r1;have HR1:=hid r1;rcases k with _ | k
    ·go_upto_region 10 with fail
     refine am (by kernel_rfl) (by kernel_rfl) ?_;have u1:=ay r1 rl
     repeat (go_big_quiet_step (fail))
     refine wpQuiet_nil ?_;rintro w2 ⟨⟨_,hb2⟩,rfl⟩;have HI2:=hid (hI.below hb2);have HD2:=hid (hI.done (.inl rfl));clear hI hb2 u1 r0 r1 r2 r3 rf;obtain ⟨hk3,hJ⟩:=HI2.out.third HH.out HOK.out.1 HV.out.2.1 HD2.out;have HJ:=hid hJ;obtain ⟨r0,r1,r2,r3,rl,rf⟩:=bd (m:=⟨m.vn,.slice As (0) cs,m.vw,m.ps,m.qs⟩) HI2.out.rw_.blk;simp only at r1;rw [hk3] at r1;have htl:(au f.safe).length≤100000:=by have:=jm f.safe;omega
     clear hJ hk3 r0 r2 r3 rf;go_wp2_with fail;obtain ⟨w3,hw3⟩:∃ w3:World,w3=w2:=⟨_,rfl⟩;subst hw3;clear r1 rl;go_loopw [88] (fun iv wr=>∃ i:Nat,i≤(au f.safe).length∧iv=.int .i64 i∧FateJ w E g m As cs f.waits f.sure (au f.safe) i wr) (fun iv _=>(au f.safe).length - (intOf iv).toNat)
     case atStart=>exact ⟨0,Nat.zero_le _,rfl,HJ.out⟩
     case round=>
      obtain ⟨i,hi,rfl,hJ⟩:=hrel;have HJI:=hid hJ;by_cases hlt:i<(au f.safe).length
      ·obtain ⟨b,q,hA,hbl,hcb,hfb,hqn,hyes,hnone⟩:=hJ.at_ hlt;have hi0:(0:Int)≤(i:Int):=by omega
       have hi1:(i:Int)<((au f.safe).length:Int):=by omega
       unfold mq at hcb;have HK:=hid (And.intro hi hlt);rcases q with _ | p
       ·have HNX:=hid (hnone rfl);obtain ⟨e0,e1,e2,e3,el,ef⟩:=bd (m:=⟨m.vn,.slice As (au f.safe).length cs,m.vw,m.ps,m.qs⟩) (by obtain ⟨⟨qs,h1,-⟩,-⟩:=HJI.out;exact h1.blk);simp only at e1;clear hqn hyes hnone hJ e0 e2 e3 ef;subst hA;have HBL:=hid (And.intro hbl (And.intro hcb hfb))
        have hgb:g≠b:=fun e=>by
         obtain ⟨⟨qs,h1,-⟩,-⟩:=HJI.out;exact h1.g2 (by rw [e];rfl)
        have HE1:=hid (And.intro e1 el);have hrep:=hid kb;go_wp2_with fail
        go_region_held3 (fun w'=>w'.cell? ⟨g,1,none⟩=some (.slice (some ⟨b,0,none⟩) (au f.safe).length cs)) (first | exact d1 | exact e1 | exact kz d1 dgl | exact kz (tE d1 hgb) (by simpa using dgl))
         (first
          | (go_at_call 82;(with_reducible refine (hrep.out _).mono ?_);rintro e w5 ⟨rfl,hb5⟩;have HB5:=hid (show Below wr.heap.size wr w5 from ((Below.refl wr.heap.size wr).drew).trans hb5);have d1:=(HB5.out.cell (p:=⟨g,1,none⟩) HE1.out.2).trans HE1.out.1;have dcb:=(HB5.out.cell (p:=⟨b,i,none⟩) HBL.out.1).trans HBL.out.2.1;have dfb:=(HB5.out.frozen (p:=⟨b,i,none⟩) HBL.out.1).trans HBL.out.2.2;have dbl:=Nat.lt_of_lt_of_le HBL.out.1 HB5.out.size;have dgl:=Nat.lt_of_lt_of_le HE1.out.2 HB5.out.size;clear hb5))
        all_goals
         have HST:=hid (show FateJ w E g m (some ⟨b,0,none⟩) cs f.waits f.sure (au f.safe) (i+1) ((w5.setCell ⟨b,i,none⟩ (.pointer (some ⟨w5.heap.size,0,none⟩))).alloc (fk zeroS)) from HNX.out w5 _ HB5.out rfl);go_wp2_with fail;go_roundw
         case rel=>exact ⟨i+1,by have:=HK.out;omega,by go_num,HST.out⟩
         case measure=>simp [intOf];omega
       ·have HNX:=hid (hyes (by simp));clear hqn hyes hnone hJ;subst hA;go_wp2_with fail;go_roundw
        case rel=>exact ⟨i+1,by have:=HK.out;omega,by go_num,HNX.out⟩
        case measure=>simp [intOf];omega
      ·obtain rfl:i=(au f.safe).length:=by omega
       obtain ⟨ps,hR,hps,hnew,hold⟩:=HJI.out.fin;have hpl:ps.length=(au f.safe).length:=by have:=congrArg List.length hps;simpa using this
       have HR:=hid (And.intro hR (And.intro hps (And.intro hnew (And.intro hold hpl))));obtain ⟨e0,e1,e2,e3,el,ef⟩:=bd (m:=⟨m.vn,.slice As (au f.safe).length cs,m.vw,m.ps,m.qs⟩) hR.blk;simp only at e0 e1;have f0:=ef 0;have HCL:=hid (mj (ps.map some) (.slice As (au f.safe).length cs) wr (hR.os.sl cJ) (by simp;omega));clear hR hps hnew hold hlt hi hJ e2 e3 ef;go_wp2_with fail;refine HCL.out.mono ?_;rintro e w5 ⟨v5,rfl,ho5,hb5⟩;obtain ⟨A5,c5,rfl,-⟩:=aD ho5;rw [List.length_map,HR.out.2.2.2.2] at ho5 ⊢;have HO5:=hid ho5;have HB5:=hid hb5;have HG5:=hid (aB HR.out.1.blk hb5);have k0:=aa HG5.out 0;simp only [List.getElem?_toArray,List.getElem?_cons_zero] at k0;have kf:=ah HG5.out 0;have kl:=ab HG5.out;have HG6:=hid (ae HG5.out 0 (.slice A5 (au f.safe).length c5));have hs6:(w5.setCell ⟨g,0,none⟩ (.slice A5 (au f.safe).length c5)).heap.size=w5.heap.size:=by simp
       have HC6:=hid ((Ch.refl (fun k=>k=g) w5).setCell (p:=⟨g,0,none⟩) rfl (.slice A5 (au f.safe).length c5));clear ho5 hb5 e0 e1 f0;go_upto_region 19 with fail
       generalize w5.setCell ⟨g,0,none⟩ (.slice A5 (au f.safe).length c5)=w6 at *;have c0:w6.cell? ⟨g,0,none⟩=some (.slice A5 (au f.safe).length c5):=aa HG6.out 0;have c2:w6.cell? ⟨g,2,none⟩=some m.vw:=aa HG6.out 2;have z2:=ah HG6.out 2;have gl6:=ab HG6.out;have hmk:=ld w6 (au f.safe).length (by omega);rw [hs6] at hmk;obtain ⟨vw,hvw⟩:∃ vw,vw=Value.slice (some ⟨w5.heap.size,0,none⟩) (au f.safe).length (au f.safe).length:=⟨_,rfl⟩;have HWV:=hid hvw;obtain ⟨w7,hw7⟩:∃ w7,w7=w6.setCell ⟨g,2,none⟩ vw:=⟨_,rfl⟩;have HG7:=hid (show w7.heap[g]?=some (.cells #[.slice A5 (au f.safe).length c5,.slice As (au f.safe).length cs,vw,.bool f.sure] 87 (0,0)) by rw [hw7];exact ae HG6.out 2 vw);have HC7:=hid (show Ch (fun k=>k=g) w6 w7 by rw [hw7];exact (Ch.refl (fun k=>k=g) w6).setCell (p:=⟨g,2,none⟩) rfl vw);have hs7:w7.heap.size=w5.heap.size:=by rw [hw7];simp [hs6]
       have HS7:=hid hs7;have HW7:=hid hw7;have HFI:=hid (FateJ.last HH.out HOK.out.1 HOK.out.2 HJI.out HR.out.1 HR.out.2.1 HR.out.2.2.1 HR.out.2.2.2.1 HO5.out HB5.out (HC6.out.trans HC7.out) HG7.out hs7 hvw (by unfold maxLen;omega));clear hvw hw7 hs7;go_wp2_with fail;refine bodyPost_end (results_none rfl _ _ _) rfl ⟨rfl,?_⟩;have hz:=HFI.out;rw [HW7.out,HWV.out] at hz;exact hz
    ·obtain ⟨b,q,rfl,hbl,hcb,hq,hdn⟩:=hI.at_ hva.out;unfold mq at hcb;have hwr:IntKind.i64.wrap ((k:Int)+1 - 1)=(k:Int):=by rw [IntKind.wrap_i64];have:=hI.le;have:=HV.out.2.2.2;omega
     have hwk:IntKind.i64.wrap (k:Int)=(k:Int):=by rw [IntKind.wrap_i64];have:=hI.le;have:=HV.out.2.2.2;omega
     have hk0:(0:Int)≤(k:Int):=by omega
     have hk1:(0:Int)<(k:Int)+1:=by omega
     have hk2:(k:Int)<(k:Int)+1:=by omega
     have hk4:(k:Int)≤(cs:Int):=by have:=hI.le;have:=HV.out.2.2.1;omega
     rcases q with _ | p
     ·go_upto_region 10 with fail
      refine am (by kernel_rfl) (by kernel_rfl) ?_;have u1:=ay r1 rl;have u2:=ay hcb hbl
      repeat (go_big_quiet_step (fail))
      refine wpQuiet_nil ?_;rintro w2 ⟨⟨_,hb2⟩,rfl⟩;have hI2:=hI.below hb2;clear hI hdn hbl hcb u1 u2;obtain ⟨b2,q2,e2,hbl,hcb,hq2,hdn⟩:=hI2.at_ hva.out;injection e2 with e2
      injection e2 with e2 _ _
      subst e2;rw [hq] at hq2;injection hq2 with hq2
      subst hq2;have HDN:=hid (hdn rfl);obtain ⟨r0,r1,r2,r3,rl,rf⟩:=bd (m:=⟨m.vn,.slice (some ⟨b,0,none⟩) (k+1) cs,m.vw,m.ps,m.qs⟩) hI2.rw_.blk;simp only at r1;have z1:=rf 1
      have HM:=hid (show ∀ w7:World,FateI w E g m (some ⟨b,0,none⟩) cs f k w7→rj (w7.cell? ⟨g,1,none⟩)<rj (wr.cell? ⟨g,1,none⟩) from fun w7 h7=>by
       rw [show w7.cell? ⟨g,1,none⟩=some (.slice (some ⟨b,0,none⟩) k cs) from aa h7.rw_.blk 1,HR1.out];exact Nat.lt_succ_self k)
      clear hdn hI2 r0 r2 r3 rf;go_wp2_with fail;go_region;have HST:=hid (HDN.out _ rfl);go_wp2_with fail;go_roundw
      case rel=>exact ⟨k,HST.out⟩
      case measure=>exact HM.out _ HST.out
     ·go_upto_region 10 with fail
      refine am (by kernel_rfl) (by kernel_rfl) ?_;have u1:=ay r1 rl;have u2:=ay hcb hbl
      repeat (go_big_quiet_step (fail))
      refine wpQuiet_nil ?_;rintro w2 ⟨⟨_,hb2⟩,rfl⟩;have HI2:=hid (hI.below hb2);have HD2:=hid (hI.done (.inr ⟨k,p,rfl,hq⟩));clear hI hdn hbl hcb u1 u2 hb2 r0 r1 r2 r3 rf;obtain ⟨As,hAs⟩:∃ As,As=some (⟨b,0,none⟩:Addr):=⟨_,rfl⟩;rw [← hAs] at HI2 HV hva;clear hAs hwr hwk hk0 hk1 hk2 hk4 hq;obtain ⟨hk3,hJ⟩:=HI2.out.third HH.out HOK.out.1 HV.out.2.1 HD2.out;have HJ:=hid hJ;obtain ⟨r0,r1,r2,r3,rl,rf⟩:=bd (m:=⟨m.vn,.slice As (k+1) cs,m.vw,m.ps,m.qs⟩) HI2.out.rw_.blk;simp only at r1;rw [hk3] at r1;have htl:(au f.safe).length≤100000:=by have:=jm f.safe;omega
      clear hJ hk3 r0 r2 r3 rf;go_wp2_with fail;obtain ⟨w3,hw3⟩:∃ w3:World,w3=w2:=⟨_,rfl⟩;subst hw3;clear r1 rl;go_loopw [88] (fun iv wr=>∃ i:Nat,i≤(au f.safe).length∧iv=.int .i64 i∧FateJ w E g m As cs f.waits f.sure (au f.safe) i wr) (fun iv _=>(au f.safe).length - (intOf iv).toNat)
      case atStart=>exact ⟨0,Nat.zero_le _,rfl,HJ.out⟩
      case round=>
       obtain ⟨i,hi,rfl,hJ⟩:=hrel;have HJI:=hid hJ;by_cases hlt:i<(au f.safe).length
       ·obtain ⟨b,q,hA,hbl,hcb,hfb,hqn,hyes,hnone⟩:=hJ.at_ hlt;have hi0:(0:Int)≤(i:Int):=by omega
        have hi1:(i:Int)<((au f.safe).length:Int):=by omega
        unfold mq at hcb;have HK:=hid (And.intro hi hlt);rcases q with _ | p
        ·have HNX:=hid (hnone rfl);obtain ⟨e0,e1,e2,e3,el,ef⟩:=bd (m:=⟨m.vn,.slice As (au f.safe).length cs,m.vw,m.ps,m.qs⟩) (by obtain ⟨⟨qs,h1,-⟩,-⟩:=HJI.out;exact h1.blk);simp only at e1;clear hqn hyes hnone hJ e0 e2 e3 ef;subst hA;have HBL:=hid (And.intro hbl (And.intro hcb hfb))
         have hgb:g≠b:=fun e=>by
          obtain ⟨⟨qs,h1,-⟩,-⟩:=HJI.out;exact h1.g2 (by rw [e];rfl)
         have HE1:=hid (And.intro e1 el);have hrep:=hid kb;go_wp2_with fail
         go_region_held3 (fun w'=>w'.cell? ⟨g,1,none⟩=some (.slice (some ⟨b,0,none⟩) (au f.safe).length cs)) (first | exact d1 | exact e1 | exact kz d1 dgl | exact kz (tE d1 hgb) (by simpa using dgl))
          (first
           | (go_at_call 82;(with_reducible refine (hrep.out _).mono ?_);rintro e w5 ⟨rfl,hb5⟩;have HB5:=hid (show Below wr.heap.size wr w5 from ((Below.refl wr.heap.size wr).drew).trans hb5);have d1:=(HB5.out.cell (p:=⟨g,1,none⟩) HE1.out.2).trans HE1.out.1;have dcb:=(HB5.out.cell (p:=⟨b,i,none⟩) HBL.out.1).trans HBL.out.2.1;have dfb:=(HB5.out.frozen (p:=⟨b,i,none⟩) HBL.out.1).trans HBL.out.2.2;have dbl:=Nat.lt_of_lt_of_le HBL.out.1 HB5.out.size;have dgl:=Nat.lt_of_lt_of_le HE1.out.2 HB5.out.size;clear hb5))
         all_goals
          have HST:=hid (show FateJ w E g m (some ⟨b,0,none⟩) cs f.waits f.sure (au f.safe) (i+1) ((w5.setCell ⟨b,i,none⟩ (.pointer (some ⟨w5.heap.size,0,none⟩))).alloc (fk zeroS)) from HNX.out w5 _ HB5.out rfl);go_wp2_with fail;go_roundw
          case rel=>exact ⟨i+1,by have:=HK.out;omega,by go_num,HST.out⟩
          case measure=>simp [intOf];omega
        ·have HNX:=hid (hyes (by simp));clear hqn hyes hnone hJ;subst hA;go_wp2_with fail;go_roundw
         case rel=>exact ⟨i+1,by have:=HK.out;omega,by go_num,HNX.out⟩
         case measure=>simp [intOf];omega
       ·obtain rfl:i=(au f.safe).length:=by omega
        obtain ⟨ps,hR,hps,hnew,hold⟩:=HJI.out.fin;have hpl:ps.length=(au f.safe).length:=by have:=congrArg List.length hps;simpa using this
        have HR:=hid (And.intro hR (And.intro hps (And.intro hnew (And.intro hold hpl))));obtain ⟨e0,e1,e2,e3,el,ef⟩:=bd (m:=⟨m.vn,.slice As (au f.safe).length cs,m.vw,m.ps,m.qs⟩) hR.blk;simp only at e0 e1;have f0:=ef 0;have HCL:=hid (mj (ps.map some) (.slice As (au f.safe).length cs) wr (hR.os.sl cJ) (by simp;omega));clear hR hps hnew hold hlt hi hJ e2 e3 ef;go_wp2_with fail;refine HCL.out.mono ?_;rintro e w5 ⟨v5,rfl,ho5,hb5⟩;obtain ⟨A5,c5,rfl,-⟩:=aD ho5;rw [List.length_map,HR.out.2.2.2.2] at ho5 ⊢;have HO5:=hid ho5;have HB5:=hid hb5;have HG5:=hid (aB HR.out.1.blk hb5);have k0:=aa HG5.out 0;simp only [List.getElem?_toArray,List.getElem?_cons_zero] at k0;have kf:=ah HG5.out 0;have kl:=ab HG5.out;have HG6:=hid (ae HG5.out 0 (.slice A5 (au f.safe).length c5));have hs6:(w5.setCell ⟨g,0,none⟩ (.slice A5 (au f.safe).length c5)).heap.size=w5.heap.size:=by simp
        have HC6:=hid ((Ch.refl (fun k=>k=g) w5).setCell (p:=⟨g,0,none⟩) rfl (.slice A5 (au f.safe).length c5));clear ho5 hb5 e0 e1 f0;go_upto_region 19 with fail
        generalize w5.setCell ⟨g,0,none⟩ (.slice A5 (au f.safe).length c5)=w6 at *;have c0:w6.cell? ⟨g,0,none⟩=some (.slice A5 (au f.safe).length c5):=aa HG6.out 0;have c2:w6.cell? ⟨g,2,none⟩=some m.vw:=aa HG6.out 2;have z2:=ah HG6.out 2;have gl6:=ab HG6.out;have hmk:=ld w6 (au f.safe).length (by omega);rw [hs6] at hmk;obtain ⟨vw,hvw⟩:∃ vw,vw=Value.slice (some ⟨w5.heap.size,0,none⟩) (au f.safe).length (au f.safe).length:=⟨_,rfl⟩;have HWV:=hid hvw;obtain ⟨w7,hw7⟩:∃ w7,w7=w6.setCell ⟨g,2,none⟩ vw:=⟨_,rfl⟩;have HG7:=hid (show w7.heap[g]?=some (.cells #[.slice A5 (au f.safe).length c5,.slice As (au f.safe).length cs,vw,.bool f.sure] 87 (0,0)) by rw [hw7];exact ae HG6.out 2 vw);have HC7:=hid (show Ch (fun k=>k=g) w6 w7 by rw [hw7];exact (Ch.refl (fun k=>k=g) w6).setCell (p:=⟨g,2,none⟩) rfl vw);have hs7:w7.heap.size=w5.heap.size:=by rw [hw7];simp [hs6]
        have HS7:=hid hs7;have HW7:=hid hw7;have HFI:=hid (FateJ.last HH.out HOK.out.1 HOK.out.2 HJI.out HR.out.1 HR.out.2.1 HR.out.2.2.1 HR.out.2.2.2.1 HO5.out HB5.out (HC6.out.trans HC7.out) HG7.out hs7 hvw (by unfold maxLen;omega));clear hvw hw7 hs7;go_wp2_with fail;refine bodyPost_end (results_none rfl _ _ _) rfl ⟨rfl,?_⟩;have hz:=HFI.out;rw [HW7.out,HWV.out] at hz;exact hz
theorem uu (w:World) {L:DkM} {d:Dk} (h:DkIs w L d):
  Calls Tryz.prog 60 #[ai L.gd] w fun e w'=>∃ v,e=.returned v∧Own Bu 1 9 w.heap.size w' v (iE (d.files.map (·.1)))∧Below w.heap.size w w':=by
 obtain ⟨ops,hb⟩:=h.blk;obtain ⟨c0,-,-,-,-,-,-,-,hlt,-⟩:=bH hb;have hkl:L.K.length≤1000000:=by have:=congrArg List.length h.fls;rw [List.length_map,List.length_map] at this;have:=h.ok.few;omega
 have HS:=hid (pI L.gm w h.map hkl);rw [h.fls];unfold ai;clear h hb hkl;go_enter Tryz.func60,Tryz.ntmps60;go_wp2_with fail;refine (uD (some L.gm) w).mono ?_;rintro e w1 ⟨rfl,rfl⟩;go_wp2_with fail;refine HS.out.mono ?_;rintro e w2 ⟨v,rfl,ho,hb⟩;have HO:=hid (And.intro ho hb);clear ho hb;go_wp2_with fail;go_ret;exact ⟨v,rfl,HO.out.1,HO.out.2⟩
theorem uZ {α β:Type} [DecidableEq α] {K:List (α × β)} {a:α} {b:β} (h:a ∈ K.map (·.1)):cR (aX K a b) a=cR K a:=by
 unfold aX cR;rw [if_pos h];clear h
 induction K with
 | nil=>rfl
 | cons p K ih=>
   rw [List.map_cons,List.filter_cons,List.filter_cons,ih];by_cases e:p.1=a
   ·rw [if_pos e];simp [e]
   ·rw [if_neg e]
def BO (f:Fi):Fi:={ f.fate with sure:=true }
theorem zT {f:Fi} (h:f.Ok):(BO f).Ok:=let h:=oY h;⟨h.ls,h.lw,h.sec,h.n,h.ssec⟩
theorem vX {d:Dk} (h:d.Ok) (n:By):(d.on1 n).Ok:=by
 unfold Dk.on1;cases hf:d.file n with
 | none=>exact h
 | some f=>
   simp only
   split
   ·exact ⟨kx h.nd,Nat.le_trans (List.length_filter_le _ _) h.few,fun p hp=>h.fok p (List.mem_filter.1 hp).1,h.room,h.life,h.at_,h.kind,h.more⟩
   ·refine fb h (n:=n) (f:=BO ((d.file n).getD .empty)) (zT ?_) fun e=>?_
    ·rw [hf];exact cD h hf
    ·rw [hf] at e;cases e
theorem ut {d:Dk} (h:d.Ok) {n m:By} (hm:m≠n):(d.on1 n).file m=d.file m:=by
 unfold Dk.on1;cases hf:d.file n with
 | none=>rfl
 | some f=>
   simp only
   split
   ·rw [Dk.del_file h,if_neg hm]
   ·rw [Dk.setF_file h,if_neg hm]
theorem nb:∀ (l:List By) {d:Dk},d.Ok→∀ {m:By},m ∉ l→(d.ons l).file m=d.file m
 | [],_,_,_,_=>rfl
 | n :: l,d,h,m,hm=>by
   have h1:m≠n:=fun e=>hm (e ▸ List.mem_cons_self)
   have h2:=nb l (vX h n) (m:=m) fun e=>hm (List.mem_cons_of_mem _ e)
   exact h2.trans (ut h h1)
theorem zS (d:Dk) (l:List By) {k:Nat} (h:k<l.length):d.ons (l.take (k+1))=(d.ons (l.take k)).on1 l[k]:=by unfold Dk.ons;rw [List.take_succ_eq_append_getElem h,List.foldl_append];rfl
theorem DkIs.onKeep {w w':World} {L:DkM} {d:Dk} (h:DkIs w L d) {n:By} {g:Nat} {f:Fi} (hf:d.file n=some f) (hm:(n,g) ∈ L.K) {C':Nat→Prop} {m':FilM} (hi:FilIs w' C' (zE w.heap.size L.E) g m' (BO f)) (h1:∀ k,L.C k→C' k) (h2:∀ k,C' k→L.C k∨w.heap.size≤k)
  (h3:∀ k,C' k→¬ L.C k→w'.heap[k]?=some (fk (zE w.heap.size L.E k))) (h4:∀ k,m'.own g k→(L.M g).own g k∨w.heap.size≤k) (h5:∀ k,m'.own g k→¬ C' k) (hc:Ch ((L.M g).own g) w w') (hno:¬ (f.fate.now=[]∧f.sure=false)):DkTo w L (d.on1 n) w':=by
 have hgm:=(h.fd _ hm);have he:d.on1 n=d.setF n fun f=>{ f.fate with sure:=true }:=by unfold Dk.on1;rw [hf];simp only [if_neg hno]
 have hmp:pk w' L.gm (aX L.K n g):=by rw [gG h.map.nd hm];exact h.map.ch hc fun e=>(hgm _ e).2.1 rfl
 have:=h.setFile (n:=n) (g:=g) (mo:=L.M g) (m':=m') (d':=d.on1 n) (f':=BO f) (C':=C') (E':=zE w.heap.size L.E) (.inl ⟨hm,rfl⟩) (hc.mono fun k _ e=>.inl e) hmp h1 (fun k hk=>ra (h.lt (.inr (.inr (.inl hk))))) h2 h3 hi h4 h5 (vX h.ok n) (by rw [he];unfold Dk.setF;rw [hf];rfl) (fun gm ops=>by rw [he];rfl);refine ⟨⟨L.gd,L.gm,aX L.K n g,C',zE w.heap.size L.E,fun k=>if k=g then m' else L.M k⟩,rfl,this.1,fun k hk=>?_,hc.mono fun k _ e=>.inr (.inr (.inr ⟨_,hm,e⟩))⟩;rcases this.2 k hk with e | e | e
 ·exact .inl e
 ·exact .inl (.inr (.inr (.inr ⟨_,hm,e⟩)))
 ·exact .inr e
theorem DkIs.onGone {w w' w2 w3:World} {L:DkM} {d:Dk} (h:DkIs w L d) {n:By} {g:Nat} {f:Fi} (hf:d.file n=some f) (hm:(n,g) ∈ L.K) {C':Nat→Prop} {m':FilM} (hi:FilIs w' C' (zE w.heap.size L.E) g m' f.fate) (h1:∀ k,L.C k→C' k) (h2:∀ k,C' k→L.C k∨w.heap.size≤k)
  (h3:∀ k,C' k→¬ L.C k→w'.heap[k]?=some (fk (zE w.heap.size L.E k))) (h4:∀ k,m'.own g k→(L.M g).own g k∨w.heap.size≤k) (h5:∀ k,m'.own g k→¬ C' k) (hc:Ch ((L.M g).own g) w w') (hyes:f.fate.now=[]∧f.sure=false)
  (hmp2:pk w2 L.gm (cR L.K n)) (hc2:Ch (fun k=>k=L.gm) w' w2) (hc3:Ch (fun k=>k=g) w2 w3):DkTo w L (d.on1 n) w3:=by
 have hgm:=(h.fd _ hm);have hnk:n ∈ d.files.map (·.1):=by rw [h.fls];exact List.mem_map.2 ⟨_,hm,rfl⟩
 have he:d.on1 n={ d with files:=cR d.files n }:=by unfold Dk.on1;rw [hf];simp only [if_pos hyes];rfl
 have hmp:pk w' L.gm (aX L.K n g):=by rw [gG h.map.nd hm];exact h.map.ch hc fun e=>(hgm _ e).2.1 rfl
 have hok1:({ d with files:=aX d.files n f.fate }:Dk).Ok:=fb h.ok (oY (cD h.ok hf)) fun e=>by rw [hf] at e;cases e
 obtain ⟨a1,a2⟩:=h.setFile (n:=n) (g:=g) (mo:=L.M g) (m':=m') (d':={ d with files:=aX d.files n f.fate }) (f':=f.fate) (C':=C') (E':=zE w.heap.size L.E) (.inl ⟨hm,rfl⟩) (hc.mono fun k _ e=>.inl e) hmp h1 (fun k hk=>ra (h.lt (.inr (.inr (.inl hk))))) h2 h3 hi h4 h5 hok1 rfl (fun gm ops=>rfl);have hKs:aX L.K n g=L.K:=gG h.map.nd hm;have hmp2':pk w2 L.gm (cR (aX L.K n g) n):=by rw [hKs];exact hmp2
 obtain ⟨b1,b2⟩:=a1.dropFile (n:=n) (d':=d.on1 n) hc2 hmp2' (by rw [he];simp only;rw [uZ hnk])
 have b1':=b1.ch hc3 (fun k hk e=>by
  subst e;rcases hk with hk | hk | hk | ⟨p,hp,hk⟩
  ·exact (hgm _ (.inl rfl)).1 hk
  ·exact (hgm _ (.inl rfl)).2.1 hk
  ·exact h5 _ (.inl rfl) hk
  ·have hp':=List.mem_filter.1 hp;have hpn:p.1≠n:=by simpa using hp'.2
   have hpK:p ∈ L.K:=by have:=hp'.1;rw [hKs] at this;exact this
   have hpk:p.2≠k:=fun e=>h.ff p hpK _ hm (fun e2=>hpn (by rw [e2])) k (.inl e.symm) (.inl rfl)
   have hk:(if p.2=k then m' else L.M p.2).own p.2 k:=hk;rw [if_neg hpk] at hk;exact h.ff p hpK _ hm (fun e2=>hpn (by rw [e2])) k hk (.inl rfl))
 refine ⟨⟨L.gd,L.gm,cR (aX L.K n g) n,C',zE w.heap.size L.E,fun k=>if k=g then m' else L.M k⟩,rfl,b1',fun k hk=>?_,?_⟩
 ·rcases a2 k (b2 k hk) with e | e | e
  ·exact .inl e
  ·exact .inl (.inr (.inr (.inr ⟨_,hm,e⟩)))
  ·exact .inr e
 ·exact ((hc.mono (S':=L.F) fun k _ e=>.inr (.inr (.inr ⟨_,hm,e⟩))).trans (hc2.mono (S':=L.F) fun k _ e=>.inr (.inl e))).trans (hc3.mono (S':=L.F) fun k _ e=>.inr (.inr (.inr ⟨_,hm,.inl e⟩)))
def tx:Obj:=.cells #[.slice none 0 0] 30 (0,0)
def Bc:Obj:=.cells #[.int .i64 0] 3 (0,0)
theorem BF:MpT (fun n:By=>n.length≤maxLen) 67 9 82 oL cZ AO ai (.pointer none) ga where
 law:=fmT.law
 und:=fmT.und
 key:=fun a ha=>WideMaps.keyOf_string_mk Tryz.underlying9 (s:=aj a) (by rw [aw];exact ha)
 inj:=fmT.inj
 lit:=fmT.lit
 rel:=fmT.rel
 inv:=fmT.inv
 zero:=fmT.zero
 zrel:=fmT.zrel
theorem DkIs.nlen {w:World} {L:DkM} {d:Dk} (h:DkIs w L d) {p:By × Nat} (hp:p ∈ L.K):p.1.length≤maxLen:=by obtain ⟨D,hown,hmo⟩:=h.map;exact Go.strKeys_le hown Tryz.underlying9 _ ((kQ hown hmo).mem_iff.1 (List.mem_map.2 ⟨p,hp,rfl⟩))
theorem FilIs.sured {w:World} {C:Nat→Prop} {E:Nat→By} {g:Nat} {m:FilM} {f:Fi} (h:FilIs w C E g m f):FilIs (w.setCell ⟨g,3,none⟩ (.bool true)) C E g m { f with sure:=true }:=by
 have hc:Ch (fun j=>j=g) w (w.setCell ⟨g,3,none⟩ (.bool true)):=(Ch.refl (fun j=>j=g) w).setCell (p:=⟨g,3,none⟩) rfl _
 exact { h with
  blk:=ae h.blk 3 (.bool true)
  on:=h.on.ch hc fun k hk e=>h.g1 (e ▸ hk)
  os:=h.os.ch hc fun k hk e=>h.g2 (e ▸ hk)
  ow:=h.ow.ch hc fun k hk e=>h.g3 (e ▸ hk) }
theorem vV (w:World) {L:DkM} {d:Dk} (h:DkIs w L d):
  Calls Tryz.prog 16 #[ai L.gd,.slice none 0 0] w fun e w'=>e=.returned (.tuple #[])∧DkTo w L (d.onL (iE (d.files.map (·.1)))) w':=by
 have hA:Below w.heap.size w (w.alloc tx):=(Below.refl _ w).alloc (Nat.le_refl _) _;have HA:=hid hA;have HH:=hid (h.ch (S:=fun _=>False) (Ch.of_below hA) (fun _ _ h=>h));have HLT:=hid (fun k (hk:L.F k)=>h.lt hk);obtain ⟨ops,hb⟩:=HH.out.blk;obtain ⟨c0,c1,c2,c3,c4,c5,c6,c7,hlt,hfz⟩:=bH hb;cases hd:d.down
 ·have HE:=hid (show d.onL (iE (d.files.map (·.1)))=d by unfold Dk.onL;rw [hd];rfl);rw [hd] at c2;unfold ai;unfold tx at hlt c2;clear h hA hb hfz hd;go_enter Tryz.func16,Tryz.ntmps16;go_wp2_with fail;refine bodyPost_ret (results_none rfl _ _ _) rfl ?_;exact ⟨rfl,by rw [HE.out];exact ⟨L,rfl,HH.out,fun _ hk=>.inl hk,Ch.of_below HA.out⟩⟩
 ·have HE:=hid (show d.onL (iE (d.files.map (·.1)))=({ d with down:=false }:Dk).ons (iE (d.files.map (·.1))) by unfold Dk.onL;rw [hd];rfl);rw [hd] at c2;have z2:=hfz 2;have HX:=hid (show (w.alloc tx).heap[w.heap.size]?=some tx from af rfl);have HB:=hid hb
  have HD2:=hid (show ∀ w2,w2=(w.alloc tx).setCell ⟨L.gd,2,none⟩ (.bool false)→DkIs w2 L { d with down:=false } from fun w2 hw=>by
   have hc:Ch (fun k=>k=L.gd) (w.alloc tx) w2:=by rw [hw];exact (Ch.refl (fun k=>k=L.gd) _).setCell (p:=⟨L.gd,2,none⟩) rfl _
   exact HH.out.blk' (ops:=ops) hc (by rw [hw];exact ae hb 2 (.bool false)) rfl ⟨HH.out.ok.nd,HH.out.ok.few,HH.out.ok.fok,HH.out.ok.room,HH.out.ok.life,HH.out.ok.at_,HH.out.ok.kind,HH.out.ok.more⟩)
  unfold ai;have hlt:L.gd<(w.alloc (.cells #[.slice none 0 0] 30)).heap.size:=hlt;have c2:(w.alloc (.cells #[.slice none 0 0] 30)).cell? ⟨L.gd,2,none⟩=some (.bool true):=c2;have z2:(w.alloc (.cells #[.slice none 0 0] 30)).frozen? ⟨L.gd,2,none⟩=false:=z2;clear h hA hb hfz hd c0 c1 c3 c4 c5 c6 c7;go_enter Tryz.func16,Tryz.ntmps16;go_upto_region 3 with fail
  have hD2:=HD2.out _ rfl;have hX2:((w.alloc tx).setCell ⟨L.gd,2,none⟩ (.bool false)).heap[w.heap.size]?=some tx:=((Ch.refl (fun k=>k=L.gd) (w.alloc tx)).setCell (p:=⟨L.gd,2,none⟩) rfl _).keep HX.out (fun e=>by have:=HLT.out L.gd (.inl rfl);omega);have hs2:((w.alloc tx).setCell ⟨L.gd,2,none⟩ (.bool false)).heap.size=w.heap.size+1:=by simp
  have hc2:Ch L.F w ((w.alloc tx).setCell ⟨L.gd,2,none⟩ (.bool false)):=(Ch.of_below HA.out).trans ((Ch.refl L.F (w.alloc tx)).setCell (p:=⟨L.gd,2,none⟩) (.inl rfl) _);change Code.wp _ _ _ _ ((w.alloc tx).setCell ⟨L.gd,2,none⟩ (.bool false));generalize (w.alloc tx).setCell ⟨L.gd,2,none⟩ (.bool false)=w2 at *;have HA3:=hid (show Below w2.heap.size w2 (w2.alloc Bc) from (Below.refl _ w2).alloc (Nat.le_refl _) _);have HD3:=hid (hD2.ch (S:=fun _=>False) (Ch.of_below HA3.out) (fun _ _ h=>h));have HX3:=hid (aB hX2 HA3.out);have HC3:=hid (hc2.trans (Ch.of_below HA3.out));have hs3:(w2.alloc Bc).heap.size=w.heap.size+2:=by simp [hs2]
  have HNM:=hid (uu (w2.alloc Bc) HD3.out);unfold ai at HNM;clear hD2 hX2 hc2 c2 z2 hlt;go_upto_region 5 with fail
  have hw3:∃ w3,w2.alloc Bc=w3:=⟨_,rfl⟩;obtain ⟨w3,hw3⟩:=hw3;change Code.wp _ _ _ _ (w2.alloc Bc);rw [hw3] at HD3 HX3 HC3 hs3 HNM ⊢;clear hw3;go_wp2_with fail;refine HNM.out.mono ?_;rintro e w4 ⟨v,rfl,ho,hb4⟩;obtain ⟨ns,hns⟩:∃ ns,iE (d.files.map (·.1))=ns:=⟨_,rfl⟩;have hns1:ns.Perm (d.files.map (·.1)):=by rw [← hns];exact List.mergeSort_perm _ _
  have hnd:ns.Nodup:=hns1.nodup_iff.2 HH.out.ok.nd;have hlen:ns.length≤8:=by rw [hns1.length_eq,List.length_map];exact HH.out.ok.few
  have hall:∀ n ∈ ns,∃ f,d.file n=some f:=fun n hn=>by
   have:=hns1.mem_iff.1 hn;obtain ⟨p,hp,rfl⟩:=List.mem_map.1 this;exact ⟨p.2,ci HH.out.ok.nd hp⟩
  have ho:Own Bu 1 9 w3.heap.size w4 v (iE (d.files.map (·.1))):=ho;rw [hns] at ho;rw [hns] at HE;have HNS0:=hid hns;have HNS:=hid (And.intro hnd (And.intro hlen hall));obtain ⟨A,c,rfl,-⟩:=aD ho;have HO:=hid ho;have HD4:=hid (HD3.out.ch (S:=fun _=>False) (Ch.of_below hb4) (fun _ _ h=>h));have HX4:=hid (aB HX3.out hb4);have HC4:=hid (HC3.out.trans (Ch.of_below hb4));have hs4:w.heap.size+2≤w4.heap.size:=by have:=hb4.size;omega
  have HS4:=hid (And.intro hs4 hs3);clear ho hb4 hns hns1 hnd hall HNM hs4 hs2 hs3;go_wp2_with fail;go_loopw [25] (fun iv wr=>∃ k:Nat,k≤ns.length∧iv=.int .i64 k∧DkTo w4 L (({ d with down:=false }:Dk).ons (ns.take k)) wr) (fun iv _=>ns.length - (intOf iv).toNat)
  case atStart=>exact ⟨0,Nat.zero_le _,rfl,L,rfl,HD4.out,fun _ hk=>.inl hk,Ch.refl _ _⟩
  case round=>
   obtain ⟨k,hk,rfl,hto⟩:=hrel;have HTO:=hid hto;by_cases hlt:k<ns.length
   ·obtain ⟨L',l1,l2,l3,l4⟩:=hto;have hold:∀ k,L'.F k→k<w.heap.size∨w4.heap.size≤k:=fun k hk=>(l3 k hk).imp (HLT.out k) id
    obtain ⟨b,c',hv,hbl,hcb,-⟩:=fI (HO.out.ch l4 fun b hb e=>by have:=(HO.out.lt b hb).1;have:=HLT.out b e;have:=HS4.out.2;omega) yv hlt;injection hv with hv1 hv2 hv3
    subst hv1 hv3;have hcn:=hcb _ rfl;obtain ⟨f,hf⟩:=HNS.out.2.2 _ (List.getElem_mem hlt)
    have hfk:(({ d with down:=false }:Dk).ons (ns.take k)).file ns[k]=some f:=by
     rw [nb _ (d:={ d with down:=false }) ⟨HH.out.ok.nd,HH.out.ok.few,HH.out.ok.fok,HH.out.ok.room,HH.out.ok.life,HH.out.ok.at_,HH.out.ok.kind,HH.out.ok.more⟩]
     ·exact hf
     ·intro hm;obtain ⟨i,hi,e⟩:=List.getElem_of_mem hm;rw [List.length_take] at hi;rw [List.getElem_take] at e;have:=(List.getElem_inj HNS.out.1).1 e;omega
    have hup:=zS ({ d with down:=false }:Dk) ns hlt;have HK:=hid (And.intro hk hlt);have hk0:(0:Int)≤(k:Int):=by omega
    have hk1:(k:Int)<(ns.length:Int):=by omega
    generalize ns[k]=n at *;generalize ({ d with down:=false }:Dk).ons (ns.take k)=dk at *;obtain ⟨g,hgk,hgm,hfi⟩:=l2.fso hfk;have hnl:=l2.nlen hgm;have hlook:=l2.map.look BF (a:=n) hnl;rw [hgk] at hlook;unfold qg cZ ai at hlook;simp only at hlook;unfold cZ at hcn;obtain ⟨ops2,hb2⟩:=l2.blk;obtain ⟨c0,-,-,-,-,-,-,-,hgdl,-⟩:=bH hb2;rw [l1] at c0 hgdl;have hX:=l4.keep HX4.out (fun e=>by have:=HLT.out _ e;omega)
    have HFT:=hid (uT w.heap.size (w.heap.size+1) wr hfi (cD l2.ok hfk) (fun k hk=>l2.lt (.inr (.inr (.inl hk)))) (fun k hk=>(l2.fd _ hgm k hk).2.2) (aa hX 0) (ab hX) (fun e=>by
     rcases hold _ (.inr (.inr (.inr ⟨_,hgm,e⟩))) with e | e
     ·omega
     ·have:=HS4.out.1;omega))
    have HL2:=hid l2;have HL:=hid (And.intro l1 (And.intro l3 l4));have HG:=hid (And.intro hgm (And.intro hfk (And.intro hnl hup)));unfold ai at HFT;clear l1 l2 l3 l4 hold hv2 hcb hf hfk hup hgk hgm hfi hnl hb2 hX hlt hk;go_wp2_with fail;refine HFT.out.mono ?_;rintro e w5 ⟨rfl,C',m',a1,a2,a3,a4,a5,a6,a7⟩;obtain ⟨A5,c5,hv5⟩:=a1.lenV;obtain ⟨q0,-,-,q3',ql,qf⟩:=bd a1.blk;have q3:w5.cell? ⟨g,3,none⟩=some (.bool f.sure):=q3';clear q3';rw [hv5] at q0;have z3:=qf 3;have hbk:=a7.keep (show wr.heap[L'.gd]?=_ from (HL2.out.blk).choose_spec) (fun e=>(HL2.out.fd _ HG.out.1 _ e).1 rfl);obtain ⟨k0,-,-,-,-,-,-,-,kgl,-⟩:=bH hbk;rw [HL.out.1] at k0 kgl;have HM5:=hid (HL2.out.map.ch a7 fun e=>(HL2.out.fd _ HG.out.1 _ e).2.1 rfl);have HA1:=hid (And.intro a1 (And.intro a2 (And.intro a3 (And.intro a4 (And.intro a5 (And.intro a6 a7))))));have hfl:f.fate.now.length≤100000:=(oY (cD HL2.out.ok HG.out.2.1)).n;have HFN:=hid (show f.fate.now=[]↔f.fate.now.length=0 from List.length_eq_zero_iff.symm);clear a1 a2 a3 a4 a5 a6 a7 qf hbk hv5 c0 hgdl hcn hlook;generalize hfn:f.fate.now.length=fl at *;clear hfn
    have HQ:=hid (show ∀ w6,w6=w5.setCell ⟨g,3,none⟩ (.bool true)→¬ (f.fate.now=[]∧f.sure=false)→DkTo w4 L (({ d with down:=false }:Dk).ons (ns.take (k+1))) w6 from fun w6 hw6 hno=>by
     obtain ⟨a1,a2,a3,a4,a5,a6,a7⟩:=HA1.out;have hc6:Ch (fun j=>j=g) w5 w6:=by rw [hw6];exact (Ch.refl (fun j=>j=g) w5).setCell (p:=⟨g,3,none⟩) rfl _
     rw [HG.out.2.2.2];refine DkTo.and HL.out.1 HL.out.2.1 HL.out.2.2 (HL2.out.onKeep HG.out.2.1 HG.out.1 (C':=C') (m':=m') ?_ a2 a3 (fun j hj hn=>?_) a5 a6 (a7.then hc6 fun j e=>.inl (.inl e)) hno)
     ·rw [hw6];exact a1.sured
     ·exact hc6.keep (a4 j hj hn) fun e=>a6 j (.inl e) hj)
    by_cases hfl0:fl=0
    ·have hz1:(fl:Int)=0:=by omega
     cases hsu:f.sure
     ·rw [hsu] at q3;have HSU:=hid hsu;obtain ⟨w6,hrun,hmp6,hgr6⟩:=HM5.out.del BF (a:=n) HG.out.2.2.1 0;have hc6:Ch (fun k=>k=L'.gm) w5 w6:=Ch.of_grown hgr6 fun k hk=>by injection hk with hk;exact hk.symm
      have hb6:=hc6.keep HA1.out.1.blk (fun e=>(HL2.out.fd _ HG.out.1 g (.inl rfl)).2.1 e);have p3:w6.cell? ⟨g,3,none⟩=some (.bool false):=by rw [← HSU.out];exact aa hb6 3
      have pz:=ah hb6 3;have pl:=ab hb6
      have HR:=hid (show ∀ w7,w7=w6.setCell ⟨g,3,none⟩ (.bool true)→DkTo w4 L (({ d with down:=false }:Dk).ons (ns.take (k+1))) w7 from fun w7 hw7=>by
       obtain ⟨a1,a2,a3,a4,a5,a6,a7⟩:=HA1.out;have hc7:Ch (fun j=>j=g) w6 w7:=by rw [hw7];exact (Ch.refl (fun j=>j=g) w6).setCell (p:=⟨g,3,none⟩) rfl _
       rw [HG.out.2.2.2];exact DkTo.and HL.out.1 HL.out.2.1 HL.out.2.2 (HL2.out.onGone HG.out.2.1 HG.out.1 a1 a2 a3 a4 a5 a6 a7 ⟨HFN.out.2 hfl0,HSU.out⟩ hmp6 hc6 hc7))
      unfold cZ at hrun;clear hmp6 hgr6 hc6 hsu hb6;subst hfl0;go_wp2_with fail;have HRR:=hid (HR.out _ rfl);go_roundw
      case rel=>exact ⟨k+1,by have:=HK.out;omega,by go_num,HRR.out⟩
      case measure=>simp [intOf];omega
     ·rw [hsu] at q3;have HRR:=hid (HQ.out _ rfl (by rw [hsu];rintro ⟨-,h⟩;cases h));clear hsu;subst hfl0;go_wp2_with fail;go_roundw
      case rel=>exact ⟨k+1,by have:=HK.out;omega,by go_num,HRR.out⟩
      case measure=>simp [intOf];omega
    ·have hz1:¬ (fl:Int)=0:=by omega
     have HRR:=hid (HQ.out _ rfl (fun h=>hfl0 (HFN.out.1 h.1)));have hz2:((fl:Int) == 0)=false:=by simpa using hz1
     go_wp2_with fail;go_roundw
     case rel=>exact ⟨k+1,by have:=HK.out;omega,by go_num,HRR.out⟩
     case measure=>simp [intOf];omega
   ·obtain rfl:k=ns.length:=by omega
    rw [List.take_length] at HTO;clear hto hlt hk;go_wp2_with fail;exact bodyPost_end (results_none rfl _ _ _) rfl ⟨rfl,by
     rw [HNS0.out,HE.out];obtain ⟨L',l1,l2,l3,l4⟩:=HTO.out;exact ⟨L',l1,l2,fun k hk=>(l3 k hk).imp id fun e=>by have:=HS4.out.1;omega,HC4.out.trans l4⟩⟩
end Go.Proofs.YtdmhbgpejppbkaaGreat
namespace Go.Proofs.YtdmhbgpejppbkaaGreat
open Go.RowKit Go.Maps
def fulA:By:=aT [97]
def fulB:By:=aT [98]
def fulC:By:=aT [99]
def aH:He:=⟨1,2,0,0,0,1⟩
def aS (d:Dk) (ca:List On) (head:He) (base:Nat) (busy wrote:Bool) (work:He) (saves:List Sv) (notes:Option Jn) (gd:Nat):Pgr:=⟨d,3,ca,head,base,0,false,false,busy,wrote,work,saves,0,false,notes,false,gd,none⟩
def BL:Fi:=⟨[aI 1 0 0 (bh aH),aI 1 1 0 fulA],[some (aI 1 0 0 (bh aH)),some (aI 1 1 0 fulA)],[false,false],true⟩
def AR:Dk:=⟨[],200,false,0,0,0,0⟩
def Ci:Dk:=⟨[(aA,BL)],200,false,0,0,0,0⟩
def aD6:Dk:=⟨[(aA,BL),(aQ,⟨[aI 2 1 2 fulA],[none],[true],false⟩)],200,false,0,0,0,0⟩
def aD7:Dk:=⟨[(aA,BL)],200,false,1,0,0,0⟩
def h1:He:=⟨1,1,0,0,0,0⟩
def h2:He:=⟨1,2,0,0,0,0⟩
variable (gd:Nat)
def s0:Pgr:=aS AR [] h1 0 false false ⟨0,0,0,0,0,0⟩ [] none gd
def s1:Pgr:=aS AR [] h1 0 true false h1 [] none gd
def s2:Pgr:=aS AR [(1,aj bK,true)] h1 0 true true h2 [] none gd
def s3:Pgr:=aS AR [(1,aj fulA,true)] h1 0 true true h2 [] none gd
def s4:Pgr:=aS Ci [(1,aj fulA,false)] aH 2 false false aH [] none gd
def s5:Pgr:=aS Ci [(1,aj fulA,false)] aH 2 true false aH [] none gd
def aJ:Jn:=⟨2,2,1,0,[(1,true)]⟩
def s6:Pgr:=aS aD6 [(1,aj fulB,true)] aH 2 true true aH [] (some aJ) gd
def s7:Pgr:=aS aD6 [(1,aj fulB,true)] aH 2 true true aH [⟨aH,[]⟩] (some aJ) gd
def s8:Pgr:=aS aD6 [(1,aj fulC,true)] aH 2 true true aH [⟨aH,[(1,fulB)]⟩] (some aJ) gd
def s9:Pgr:=aS aD6 [(1,aj fulB,true)] aH 2 true true aH [⟨aH,[]⟩] (some aJ) gd
theorem Bo:(Pgr.fresh (Dk.new 200) 3 gd).empty=s0 gd:=by rfl
theorem Bl:(s0 gd).started=s1 gd:=by rfl
theorem Bk:(s1 gd).new0=s2 gd:=by rfl
theorem Bj:((s2 gd).change 1 [] fulA).wr=s3 gd:=by rfl
theorem me (n:Int) (s:ByteArray):aK [(n,s,true)]=[⟨n,s⟩]:=by simp [aK,fH]
theorem BW:((((s3 gd).bump.main0 [⟨0,aj (bh aH)⟩,⟨1,aj fulA⟩]).based).tidy [⟨1,aj fulA⟩]).ended=s4 gd:=by kernel_rfl
theorem Bi:(s3 gd).com0=s4 gd:=by
 have e1:(s3 gd).bump.comL=[⟨0,aj (bh aH)⟩,⟨1,aj fulA⟩]:=by unfold Pgr.comL;rw [show (s3 gd).bump.ca=[(1,aj fulA,true)] from rfl,me];rfl
 unfold Pgr.com0;rw [e1];have e2:aK ((s3 gd).bump.main0 [⟨0,aj (bh aH)⟩,⟨1,aj fulA⟩]).ca=[⟨1,aj fulA⟩]:=by rw [show ((s3 gd).bump.main0 [⟨0,aj (bh aH)⟩,⟨1,aj fulA⟩]).ca=[(1,aj fulA,true)] from rfl,me]
 rw [e2];exact BW gd
theorem Bh:(s4 gd).started=s5 gd:=by rfl
theorem Bg:((s5 gd).change 1 fulA fulB).wr=s6 gd:=by rfl
theorem Bf:(s6 gd).saved=s7 gd:=by rfl
theorem Be:((s7 gd).change 1 fulB fulC).wr=s8 gd:=by rfl
theorem Bd:(s8 gd).back 0 [(1,fulB)]=s9 gd:=by unfold Pgr.back;rw [show bF (([(1,fulB)]:List (Int × By)).map (·.1))=[1] by simp [bF]];rfl
end Go.Proofs.YtdmhbgpejppbkaaGreat
namespace Go.Proofs.YtdmhbgpejppbkaaGreat
open Go.RowKit Go.Maps
variable (gd:Nat)
theorem iV:fulA.length=232:=gT _
theorem lP:fulB.length=232:=gT _
theorem wR:fulC.length=232:=gT _
theorem zr:(s0 gd).Up:=⟨rfl,rfl,rfl,rfl⟩
theorem Bb:(s1 gd).Up:=⟨rfl,rfl,rfl,rfl⟩
theorem Ba:(s2 gd).Up:=⟨rfl,rfl,rfl,rfl⟩
theorem AZ:(s3 gd).Up:=⟨rfl,rfl,rfl,rfl⟩
theorem AY:(s4 gd).Up:=⟨rfl,rfl,rfl,rfl⟩
theorem AX:(s5 gd).Up:=⟨rfl,rfl,rfl,rfl⟩
theorem AW:(s6 gd).Up:=⟨rfl,rfl,rfl,rfl⟩
theorem AV:(s7 gd).Up:=⟨rfl,rfl,rfl,rfl⟩
theorem AU:(s8 gd).Up:=⟨rfl,rfl,rfl,rfl⟩
theorem AS:(s9 gd).Up:=⟨rfl,rfl,rfl,rfl⟩
theorem eo (P:Pgr) {l:List Pg} (h:l=[]):bU P l:=by subst h;intro k x hx;cases hx
theorem gO {l:List Pg} (h:l=[]):l.length≤1000:=by subst h;exact Nat.zero_le _
theorem AG:CanChange (s2 gd) 1 [] fulA:=by
 have h1:(s2 gd).fj 1=false:=rfl;have h2:(s2 gd).fs 1=false:=rfl;refine ⟨⟨fun h=>?_,fun h=>?_,fun h=>?_,fun h=>?_,fun h=>?_⟩,by omega,gO rfl,eo _ rfl⟩
 ·rw [h1,h2] at h;cases h
 ·rw [h1] at h;cases h
 ·rw [h1] at h;cases h
 ·rw [h1] at h;cases h
 ·rw [h2] at h;cases h
theorem AE:CanChange (s5 gd) 1 fulA fulB:=by
 have h2:(s5 gd).fs 1=false:=rfl;refine ⟨⟨fun _=>⟨⟨rfl,rfl⟩,by omega,iV,fun _=>rfl,fun h=>?_⟩,fun _ _=>rfl,fun _=>by show 1+1<18446744073709551616;omega,fun _ j hj=>?_,fun h=>?_⟩,by omega,gO rfl,eo _ rfl⟩
 ·have h3:(eB ((1:Nat):Int) (s5 gd).ca).2=true:=rfl;rw [h3] at h;cases h
 ·have e:((s5 gd).fetch 1 fulA).note.notes=some ⟨2,2,0,0,[]⟩:=rfl;rw [e] at hj;injection hj with hj
  subst hj;exact ⟨⟨rfl,rfl⟩,fun _=>by show 1<8;omega,by show ((2:Nat):Int)<200;omega,by show 1<2;omega,by show 0<1000000;omega,by show 0<1000000;omega⟩
 ·rw [h2] at h;cases h
theorem AD:CanChange (s7 gd) 1 fulB fulC:=by
 have h1:(s7 gd).fj 1=false:=rfl;refine ⟨⟨fun _=>⟨⟨rfl,rfl⟩,by omega,lP,fun _=>rfl,fun h=>?_⟩,fun h=>?_,fun h=>?_,fun h=>?_,fun _=>⟨0,⟨aH,[]⟩,rfl,rfl,by show 0<1000000;omega⟩⟩,by omega,gO rfl,eo _ rfl⟩
 ·have h3:(eB ((1:Nat):Int) (s7 gd).ca).2=true:=rfl;rw [h3] at h;cases h
 ·rw [h1] at h;cases h
 ·rw [h1] at h;cases h
 ·rw [h1] at h;cases h
theorem we {K:List (Int × By)} (h:Mrg ((s8 gd).saves.drop 0).reverse K):K=[(1,fulB)]:=by
 have e:((s8 gd).saves.drop 0).reverse=[] ++ [⟨aH,[(1,fulB)]⟩]:=rfl;rw [e] at h;generalize hl:([] ++ [⟨aH,[(1,fulB)]⟩]:List Sv)=l at h;cases h with
 | nil=>cases hl
 | snoc h1 h2=>
   rename_i l' s' K' K3
   have e2:=List.append_inj' hl rfl;obtain ⟨e3,e4⟩:=e2;injection e4 with e4 _
   subst e3 e4;have e5:K'=[]:=by
    generalize hl2:([]:List Sv)=l2 at h1;cases h1 with
    | nil=>rfl
    | snoc _ _=>exact absurd hl2 (by simp)
   have e6:K3=[(1,fulB)]:=List.perm_singleton.1 h2;rw [e5,e6];rfl
theorem AC:CanBack (s8 gd) 0:=by
 refine ⟨by show 0<1;omega,fun s hs=>?_,by show 2≤4096;omega,fun K hK j n hj=>?_⟩
 ·have hs:s ∈ [(⟨aH,[(1,fulB)]⟩:Sv)]:=hs;rw [List.mem_singleton.1 hs];show 1≤10000;omega
 ·rw [we gd hK] at hj ⊢;have e:bF (([(1,fulB)]:List (Int × By)).map (·.1))=[1]:=by simp [bF]
  rw [e] at hj ⊢;rcases j with _ | j
  ·injection hj with hj
   subst hj;exact ⟨by omega,by show 1<4096;omega,fun _=>gO rfl,fun _=>eo _ rfl⟩
  ·cases hj
theorem AB:CanFetch (s9 gd) 1 fulB:=⟨⟨rfl,rfl⟩,by omega,lP,fun _=>rfl,fun h=>by
 have h3:(eB ((1:Nat):Int) (s9 gd).ca).2=true:=rfl;rw [h3] at h;cases h⟩
theorem tJ:aH.Good:=⟨.inl rfl,by show 2≤4096;omega,by show 0<2;omega,by show 0<2;omega,by show 0<2;omega,⟨fun _=>rfl,fun _=>rfl⟩,by show 1<18446744073709551616;omega⟩
def aL:List Pg:=[⟨0,aj (bh aH)⟩,⟨1,aj fulA⟩]
theorem jb:(s3 gd).bump.comL=aL:=by unfold Pgr.comL;rw [show (s3 gd).bump.ca=[(1,aj fulA,true)] from rfl,me];rfl
def aDs:Dk:=⟨[(aQ,⟨[aI 3 0 1 (bB 0 0)],[some (aI 3 0 1 (bB 0 0))],[false],true⟩)],200,false,0,0,0,0⟩
def aDt:Dk:=⟨[(aQ,⟨[aI 3 0 1 (bB 0 0)],[some (aI 3 0 1 (bB 0 0))],[false],true⟩),(aA,⟨[aI 1 0 0 (bh aH)],[none],[true],false⟩)],200,false,0,0,0,0⟩
def aDu:Dk:=⟨[(aQ,⟨[aI 3 0 1 (bB 0 0)],[some (aI 3 0 1 (bB 0 0))],[false],true⟩),(aA,⟨[aI 1 0 0 (bh aH),aI 1 1 0 fulA],[none,none],[true,true],false⟩)],200,false,0,0,0,0⟩
theorem tZ:((s3 gd).bump.sealed.lays (aL.take 0)).d=aDs:=by kernel_rfl
theorem ww:((s3 gd).bump.sealed.lays (aL.take 1)).d=aDt:=by kernel_rfl
theorem qu:((s3 gd).bump.sealed.lays aL).d=aDu:=by kernel_rfl
theorem yA:CanMain (s3 gd).bump aL:=by
 refine ⟨rfl,fun _=>rfl,by show 0+1<18446744073709551616;omega,fun j hj=>?_,fun k x hx=>?_,by rw [qu];exact ⟨rfl,rfl⟩,by rw [qu];exact ⟨_,rfl⟩,by show 2≤1000;omega⟩
 ·have e:(s3 gd).bump.note.notes=some ⟨0,1,0,0,[]⟩:=rfl;rw [e] at hj;injection hj with hj
  subst hj;exact ⟨⟨rfl,rfl⟩,fun _=>by show 0<8;omega,by show ((0:Nat):Int)<200;omega,fun h=>(by cases h),by show 0<1000000;omega⟩
 ·rcases k with _ | _ | k
  ·injection hx with hx
   subst hx;refine ⟨by show (0:Int)≤0;omega,?_⟩;rw [tZ];exact ⟨⟨rfl,rfl⟩,fun _=>by show 1<8;omega,by show ((1:Nat):Int)+((0:Nat):Int)+1≤200;omega,by show 0<4096;omega,eW aH⟩
  ·injection hx with hx
   subst hx;refine ⟨by show (0:Int)≤1;omega,?_⟩;rw [ww];exact ⟨⟨rfl,rfl⟩,fun h=>(by cases h),by show ((2:Nat):Int)+((1:Nat):Int)+1≤200;omega,by show 1<4096;omega,iV⟩
  ·cases hx
theorem AF:CanCom (s3 gd):=by
 have e:aK ((s3 gd).bump.main0 aL).ca=[⟨1,aj fulA⟩]:=by rw [show ((s3 gd).bump.main0 aL).ca=[(1,aj fulA,true)] from rfl,me]
 refine ⟨rfl,tJ,by show 0+1<18446744073709551616;omega,by rw [jb];exact yA gd,fun x hx=>?_,?_,?_,?_,?_⟩
 ·rw [jb,e] at hx;rw [List.mem_singleton.1 hx];exact bD (n:=1) (by omega)
 ·rw [show (s3 gd).ca=[(1,aj fulA,true)] from rfl,me];exact Nat.succ_le_of_lt (by decide)
 ·rw [jb,e];exact Nat.succ_le_of_lt (by decide)
 ·rw [jb];show 2≤4096;omega
 ·rw [jb];have e2:((s3 gd).bump.main0 aL).d=Ci:=by kernel_rfl
  rw [e2];show ((2:Nat):Int)≤((2:Nat):Int);omega
def aD6o:Dk:=⟨aD6.files,200,true,1,0,0,0⟩
theorem zW:iE (aD6o.files.map (·.1))=[aA,aQ]:=by have e:aD6o.files.map (·.1)=[aA,aQ]:=rfl;rw [e];unfold iE;refine List.mergeSort_of_pairwise ?_;simp only [List.pairwise_cons,List.mem_cons,List.not_mem_nil,or_false,forall_eq,decide_eq_true_eq,false_imp_iff,implies_true,List.Pairwise.nil,and_true];decide
theorem on6:aD6o.onL [aA,aQ]=aD7:=by kernel_rfl
theorem BG:aD7.Fine:=⟨rfl,rfl⟩
theorem Bt:aF aD7 0 (bh aH):=⟨BL,rfl,rfl⟩
theorem Br:aF aD7 1 fulA:=⟨BL,rfl,rfl⟩
def zN:Pgr:=(Pgr.fresh aD7 1 gd).found aH
theorem zJ:(zN gd).Up:=⟨rfl,rfl,rfl,rfl⟩
theorem yV:CanFetch (zN gd) 1 fulA:=by have h3:(eB ((1:Nat):Int) (zN gd).ca).2=false:=rfl;exact ⟨⟨rfl,rfl⟩,by omega,iV,fun h=>(by rw [h3] at h;cases h),fun _=>⟨Br,gO rfl,eo _ rfl⟩⟩
theorem zI:((zN gd).fetch 1 fulA).Up:=⟨rfl,rfl,rfl,rfl⟩
end Go.Proofs.YtdmhbgpejppbkaaGreat
