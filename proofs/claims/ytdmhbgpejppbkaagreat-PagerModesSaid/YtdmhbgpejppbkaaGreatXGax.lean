/- log: Add walked. pager: add; spill, with a log and without. pager: hold. pager: main, read, fetch. -/
import Derived.Test.YtdmhbgpejppbkaaGreatXGaw
import Derived.Test.YtdmhbgpejppbkaaGreatXGav
import Derived.StillTailTactics
import Derived.Deep.RegionWith
import Derived.Deep.RegionHeld3
import Derived.RangeFuncBox
import Derived.Maps.AppendAt
set_option maxRecDepth 100000
set_option maxHeartbeats 4000000
namespace Go.Proofs.YtdmhbgpejppbkaaGreat
open Go.Lib (hid)
open Go.RowKit Go.Maps
theorem yW {d:Dk} {l:List Fr} (h:CanAdd d l) (hd:d.Ok):(fB d).Fine∧(fB d).Can bf (l.length+1)∧(d.file bf=none→d.Can bf 0):=by
 have hr:=h.room;rcases h.file with ⟨h1,h2,h3⟩ | ⟨f,h1,h2⟩
 ·have e:fB d=d.wr bf 0 topB:=by unfold fB;rw [h1];rfl
  have hl:d.len bf=0:=Dk.len_none h1;rw [e,h2];refine ⟨h.fine.wr,⟨?_,fun x=>?_,fun _=>?_⟩,fun _=>⟨Nat.zero_le _,fun _=>h3,fun _=>by omega⟩⟩
  ·rw [Dk.len_wr hd,if_pos ⟨rfl,hl.symm⟩,hl];simp
  ·rw [Dk.wr_file hd,if_pos rfl] at x;cases x
  ·rw [Dk.total_wr hd,if_pos hl.symm];show ((d.total+1:Nat):Int)<d.room;omega
 ·have e:fB d=d:=by unfold fB;rw [h1];rfl
  have hl:d.len bf=l.length+1:=by rw [Dk.len_some h1,h2]
  rw [e];exact ⟨h.fine,⟨by omega,fun x=>(by rw [h1] at x;cases x),fun _=>by omega⟩,fun x=>(by rw [h1] at x;cases x)⟩
theorem LTo.of {w w1 w':World} {D D1:DkM} {M M1:LgM} {d:Dk} {l':List Fr} (a1:D1.gd=D.gd) (a2:M1.gl=M.gl) (a3:DkIs w1 D1 d) (a5:∀ k,D1.F k→D.F k∨w.heap.size≤k) (a6:∀ k,iA M1 k→iA M k∨w.heap.size≤k) (a7:∀ k,D1.F k→¬ iA M1 k) (a8:Ch (fun k=>D.F k∨iA M k) w w1) (k:zo w1 D.gd M1 l' w'):LTo w D M d l' w':=by
 obtain ⟨M2,b1,b2,b3,b4⟩:=k;refine ⟨D1,M2,a1,b1.trans a2,a3.ch b4 (fun k hk hl=>a7 k hk hl),b2,a5,fun k hk=>?_,fun k hk hl=>?_,a8.then b4 fun k hk=>(a6 k hk).imp .inr id⟩
 ·rcases b3 k hk with e | e
  ·exact a6 k e
  ·exact .inr (Nat.le_trans a8.size e)
 ·rcases b3 k hl with e | e
  ·exact a7 k hk e
  ·have:=a3.lt hk;omega
attribute [local go_sem ↓] fN
theorem wH (n:Nat) (s:By) (c:Bool) (w:World) {D:DkM} {M:LgM} {d:Dk} {l:List Fr} (h:DkIs w D d) (hl:LgIs w D.gd M l) (hx:∀ k,D.F k→¬ iA M k) (hc:CanAdd d l) (hn:n<4096) (hs:s.length=232):
  Calls Tryz.prog 222 #[ai M.gl,.int .i64 n,.string (aj s),.bool c] w fun e w'=>e=.returned (.int .i64 0)∧LTo w D M (dI d l n s c) (cE l n s c) w':=by
 obtain ⟨k1,k2,k3⟩:=yW hc h.ok;obtain ⟨c0,-,-,cl,-⟩:=br hl.blk;have hsz:(aj s).size=232:=by rw [aw,hs]
 have hn0:(0:Int)≤(n:Int):=by omega
 have hn1:(n:Int)<4096:=by omega
 have hd1:decide ((n:Int)<0)=false:=decide_eq_false (by omega);have hd2:decide (4096≤(n:Int))=false:=decide_eq_false (by omega);have HS:=hid (bp bf (by decide) w h);have HTP:=hid (fun (w:World)=>qo w);have HW:=hid (fun (D1:DkM) (w':World) (hd:DkIs w' D1 (fB d))=>ed bf (by decide) ((l.length+1:Nat):Int) (dO l n s c) w' hd);have hab:(dO l n s c).length=256:=bw hs;rw [k1.wrE (by decide) hab k2,k1.wrS (by decide) hab k2] at HW;have HCL:=hid (fun w=>show Calls Tryz.prog 209 #[cN (zF c) n (mu l) (aj s)] w fun e w'=>e=.returned (.tuple #[.string (aj (dO l n s c)),.int .i64 0])∧Below w.heap.size w w' from fh (zF c) n (mu l) s w (by cases c <;> decide) (by omega) (xY hl.ok) hs);have HSS:=hid (fun w=>fY (dO l n s c) w);have HH:=hid (And.intro h (And.intro hl (And.intro hx hc)));have h20:=hc.n;have hwr:IntKind.i64.wrap (1+(l.length:Int))=((l.length+1:Nat):Int):=by rw [IntWalk.i64_in _ (by omega)];omega
 have HNS:=hid (And.intro hn hs);unfold cN ai cZ at *;obtain ⟨sb,hsb⟩:∃ sb,aj (dO l n s c)=sb:=⟨_,rfl⟩;rw [hsb] at HW HCL HSS;have HSBE:=hid hsb;generalize aj s=ms at *;cases hfl:d.file bf with
 | none=>
   rw [Dk.size_none hfl] at HS;have HWT:=hid (fun (w':World) (hd:DkIs w' D d)=>ed bf (by decide) ((0:Nat):Int) topB w' hd);rw [hc.fine.wrE (by decide) kG (k3 hfl),hc.fine.wrS (by decide) kG (k3 hfl)] at HWT;have HTD:=hid (show fB d=d.wr bf 0 topB by unfold fB;rw [hfl];rfl);unfold cZ at HWT;rw [show aj bf=⟨#[108,111,103]⟩ from rfl,show ((0:Nat):Int)=0 from rfl] at HWT;generalize aj topB=tb at *;clear h hl hx hc hn hs hfl k1 k2 k3 hsb;cases c
   ·rw [show zF false=5 from rfl] at HCL;go_enter Tryz.func222,Tryz.ntmps222;go_wp2_with fail;refine HS.out.mono ?_;rintro e w1 ⟨rfl,rfl⟩;go_upto_region 6 with fail
    go_region_held3 (fun w'=>w'.cell? ⟨M.gl,0,none⟩=some (.pointer (some ⟨D.gd,0,none⟩))) (first | exact e0 | exact d0 | exact c0)
     (first
      | (go_at_call 224;(with_reducible refine (HTP.out _).mono ?_);rintro e wa ⟨rfl,hba⟩;have HBA:=hid (show Below w.heap.size w wa from ((Below.refl _ w).drew).trans hba);clear hba;obtain ⟨d0,d1,d2,dl,-⟩:=br (HH.out.2.1.below HBA.out).blk;unfold ai at d0)
      | (go_at_call 210;(with_reducible refine (HWT.out wa ?ba).mono ?_);(case ba=>exact HH.out.1.ch (Ch.of_below (S:=fun _=>False) HBA.out) fun _ _ h=>h);rintro e wb ⟨rfl,hr⟩;have HT:=hid (show LTo w D M (fB d) l wb from by
          rw [HTD.out];exact LTo.pre (LTo.dk (HH.out.2.1.below HBA.out) HH.out.2.2.1 hr) HBA.out);clear hr;have HE0:=hid (show wb.cell? ⟨M.gl,0,none⟩=some (ai D.gd) from by
          obtain ⟨D1,M1,a1,a2,a3,a4,-⟩:=HT.out;rw [← a2];exact (br a4.blk).1);have e0:=HE0.out;unfold ai at e0))
    clear c0 d0 d1 d2 dl e0 cl;obtain ⟨D1,M1,a1,a2,a3,a4,a5,a6,a7,a8⟩:=HT.out;have HSM:=hid (iQ _ a4);rw [a2] at HSM;unfold ai at HSM;have H1:=hid (And.intro a1 (And.intro a2 (And.intro a3 (And.intro a4 (And.intro a7 (And.intro a5 (And.intro a6 a8)))))));clear a1 a2 a3 a4 a5 a6 a7 a8;go_wp2_with fail;refine HSM.out.mono ?_;rintro e w2 ⟨rfl,hb2⟩;have HB2:=hid hb2;clear hb2;go_wp2_with fail;refine (HCL.out _).mono ?_;rintro e w3 ⟨rfl,hb3⟩;have HB3:=hid (HB2.out.trans (hb3.mono HB2.out.size));have HD3:=hid (H1.out.2.2.1.ch (Ch.of_below (S:=fun _=>False) HB3.out) fun _ _ h=>h);have HL3:=hid (H1.out.2.2.2.1.below HB3.out);obtain ⟨c0,c1,c2,cl,-⟩:=br HL3.out.blk;obtain ⟨A,c,hv,hcc⟩:=aD HL3.out.row;have HV:=hid hv;rw [hv,H1.out.2.1] at c1;rw [H1.out.2.1] at c0 cl;unfold ai at c0;have HW3:=hid (HW.out D1 _ (HD3.out.ch (S:=fun _=>False) (Ch.drew (Ch.refl _ _)) fun _ _ h=>h));rw [H1.out.1] at HW3;clear hb3 hv c2;go_upto_region 15 with fail
    go_still_tail 11,(by kernel_rfl);change wpList _ _ _ _ _ w3.drew;have HB3d:=hid (HB3.out.drew);generalize w3.drew=w4 at *;go_wp2_with fail;refine HW3.out.mono ?_;rintro e w5 ⟨rfl,hr⟩;have HT5:=hid (show LTo w D M (dI d l n s false) l w5 from by
     obtain ⟨D5,e1,e2,e3,e4⟩:=hr;obtain ⟨a1,a2,a3,a4,a7,a5,a6,a8⟩:=H1.out;have h35:Ch D1.F wb w5:=(Ch.of_below HB3d.out).trans e4;have hs:=HB3d.out.size;refine ⟨D5,M1,e1,a2,e2,a4.ch h35 fun k hk hs=>a7 k hs hk,fun k hk=>?_,a6,fun k hk hl=>?_,a8.then h35 fun k hk=>(a5 k hk).imp .inl id⟩
     ·rcases e3 k hk with e | e
      ·exact a5 k e
      ·have:=a8.size;right;omega
     ·rcases e3 k hk with e | e
      ·exact a7 k e hl
      ·have:=a4.lt hl;omega)
    clear hr c0 c1 cl;obtain ⟨D5,M5,b1,b2,b3,b4,b5,b6,b7,b8⟩:=HT5.out;obtain ⟨c0,c1,c2,cl,-⟩:=br b4.blk;obtain ⟨A5,c5,hv5,hcc5⟩:=aD b4.row;rw [b2] at c0 c1 c2 cl;rw [hv5] at c1;have hK:=dE l;have hlen:l.length<9223372036854775807:=by omega
    obtain ⟨w6,hrun,hm6,hgr⟩:=(b4.map.ch (S:=fun _=>False) (Ch.drew (Ch.refl _ _)) id).set zy (a:=(n:Int)) (bD (by have:=HNS.out.1;omega)) (l.length:Int) (by unfold maxLen;omega);have hc6:Ch (fun k=>k=M5.gm) w5 w6:=(Ch.drew (Ch.refl _ _)).trans (Ch.of_grown hgr fun k hk=>by injection hk with hk;exact hk.symm);have HM6:=hid (And.intro hm6 hc6);have HV5:=hid hv5;unfold ny at hrun;go_wp2_with fail;go_region;clear c0 c1 c2 cl hrun;have hb6:w6.heap[M5.gl]?=some (uz D.gd M5):=hc6.keep b4.blk b4.n1;have hr6:Own tz 3 214 0 w6 M5.vf l:=b4.row.ch hc6 fun k hk e=>b4.n3 (e ▸ hk)
    obtain ⟨c0,c1,c2,cl,-⟩:=br hb6;rw [b2] at c0 c1 c2 cl;rw [hv5] at c1;rw [hv5] at hr6;have HN2:=hid (show ∀ k,(Value.slice A5 l.length c5).ownBlock=some k→k≠M5.gl from fun k hk e=>b4.n2 (by rw [hv5];exact e ▸ hk));have HB6:=hid (And.intro hb6 hr6);have HB4:=hid b4;have HB5:=hid (And.intro b1 (And.intro b2 (And.intro b3 (And.intro b5 (And.intro b6 (And.intro b7 b8))))));clear hb6 hr6 b1 b3 b4 b5 b6 b7 b8 hm6 hc6 hgr c2 c0;go_upto_region 19 with fail
    go_region_with (
     go_at_call 211;refine (HSS.out _).mono ?_;rintro e w7 ⟨rfl,hb7⟩;have HB7:=hid (show Below w6.heap.size w6 w7 from ((Below.refl _ w6).drew).trans hb7);clear hb7;obtain ⟨d0,d1,d2,dl,-⟩:=br ((Ch.of_below (S:=fun _=>False) HB7.out).keep HB6.out.1 id);rw [b2] at d0 d1 d2 dl;rw [hv5] at d1;obtain ⟨v2',w9,hr9,ho2,hg2,hat2⟩:=aZ (P:=Tryz.prog) yT 194 ((HB6.out.2.below HB7.out).below ((Below.refl w7.heap.size w7).alloc (Nat.le_refl _) _)) (Sl.one (w0:=w7) (e:=214) (cs:=#[.int .i64 n,.int .u64 (cb (dO l n s false)),.bool false]) (c:=1) ⟨n,cb (dO l n s false),false⟩ (by rfl) fK (by rfl)) (by simp [maxLen];omega) (by simp;omega) (Nat.zero_le _);have hr9':(dU #[194,194] 194 #[.slice A5 l.length c5,.slice (some ⟨w7.heap.size,0,none⟩) 1 1]).run Tryz.prog (w7.alloc (.cells #[.int .i64 n,.int .u64 (cb (dO l n s false)),.bool false] 214))=.ok v2' w9:=hr9;have hb9:w9.heap[M5.gl]?=some (uz D.gd M5):=(Ch.of_grown hg2 (fun k hk=>hk):Ch (fun k=>(Value.slice A5 l.length c5).ownBlock=some k) _ w9).keep ((Ch.of_below (S:=fun _=>False) (HB7.out.trans (((Below.refl w7.heap.size w7).alloc (Nat.le_refl _) _).mono HB7.out.size))).keep HB6.out.1 id) (fun e=>HN2.out _ e rfl);obtain ⟨e0,e1,e2,el,ef⟩:=br hb9;have z9:=ef 1;rw [b2] at e0 e1 e2 el z9;rw [hv5] at e1;obtain ⟨A9,n9,c9,rfl⟩:=dW ho2;have HA9:=hid (And.intro ho2 (And.intro hg2 hat2));clear hb9 ef ho2 hg2 hat2 hr9)
    all_goals
     have HF:=hid (show LTo w D M (dI d l n s false) (cE l n s false) (w9.setCell ⟨M.gl,1,none⟩ (.slice A9 n9 c9)) from by
      obtain ⟨b1,b2,b3,b5,b6,b7,b8⟩:=HB5.out;have hq:=HB4.out.added (HB4.out.ok.add HH.out.2.2.2.n HNS.out.1 s false) HM6.out.1 HM6.out.2 (HB7.out.trans (((Below.refl w7.heap.size w7).alloc (Nat.le_refl _) _).mono HB7.out.size)) HA9.out.1 (by rw [HV5.out];exact HA9.out.2.1) (by rw [HV5.out];exact HA9.out.2.2);rw [b2] at hq;exact LTo.of b1 b2 b3 b5 b6 b7 b8 hq)
    all_goals go_wp2_with fail
    all_goals go_ret
    all_goals exact ⟨rfl,HF.out⟩
   ·rw [show zF true=6 from rfl] at HCL;go_enter Tryz.func222,Tryz.ntmps222;go_wp2_with fail;refine HS.out.mono ?_;rintro e w1 ⟨rfl,rfl⟩;go_upto_region 6 with fail
    go_region_held3 (fun w'=>w'.cell? ⟨M.gl,0,none⟩=some (.pointer (some ⟨D.gd,0,none⟩))) (first | exact e0 | exact d0 | exact c0)
     (first
      | (go_at_call 224;(with_reducible refine (HTP.out _).mono ?_);rintro e wa ⟨rfl,hba⟩;have HBA:=hid (show Below w.heap.size w wa from ((Below.refl _ w).drew).trans hba);clear hba;obtain ⟨d0,d1,d2,dl,-⟩:=br (HH.out.2.1.below HBA.out).blk;unfold ai at d0)
      | (go_at_call 210;(with_reducible refine (HWT.out wa ?ba).mono ?_);(case ba=>exact HH.out.1.ch (Ch.of_below (S:=fun _=>False) HBA.out) fun _ _ h=>h);rintro e wb ⟨rfl,hr⟩;have HT:=hid (show LTo w D M (fB d) l wb from by
          rw [HTD.out];exact LTo.pre (LTo.dk (HH.out.2.1.below HBA.out) HH.out.2.2.1 hr) HBA.out);clear hr;have HE0:=hid (show wb.cell? ⟨M.gl,0,none⟩=some (ai D.gd) from by
          obtain ⟨D1,M1,a1,a2,a3,a4,-⟩:=HT.out;rw [← a2];exact (br a4.blk).1);have e0:=HE0.out;unfold ai at e0))
    clear c0 d0 d1 d2 dl e0 cl;obtain ⟨D1,M1,a1,a2,a3,a4,a5,a6,a7,a8⟩:=HT.out;have HSM:=hid (iQ _ a4);rw [a2] at HSM;unfold ai at HSM;have H1:=hid (And.intro a1 (And.intro a2 (And.intro a3 (And.intro a4 (And.intro a7 (And.intro a5 (And.intro a6 a8)))))));clear a1 a2 a3 a4 a5 a6 a7 a8;go_wp2_with fail;refine HSM.out.mono ?_;rintro e w2 ⟨rfl,hb2⟩;have HB2:=hid hb2;clear hb2;go_wp2_with fail;refine (HCL.out _).mono ?_;rintro e w3 ⟨rfl,hb3⟩;have HB3:=hid (HB2.out.trans (hb3.mono HB2.out.size));have HD3:=hid (H1.out.2.2.1.ch (Ch.of_below (S:=fun _=>False) HB3.out) fun _ _ h=>h);have HL3:=hid (H1.out.2.2.2.1.below HB3.out);obtain ⟨c0,c1,c2,cl,-⟩:=br HL3.out.blk;obtain ⟨A,c,hv,hcc⟩:=aD HL3.out.row;have HV:=hid hv;rw [hv,H1.out.2.1] at c1;rw [H1.out.2.1] at c0 cl;unfold ai at c0;have HW3:=hid (HW.out D1 _ (HD3.out.ch (S:=fun _=>False) (Ch.drew (Ch.refl _ _)) fun _ _ h=>h));rw [H1.out.1] at HW3;clear hb3 hv c2;go_upto_region 15 with fail
    go_still_tail 11,(by kernel_rfl);change wpList _ _ _ _ _ w3.drew;have HB3d:=hid (HB3.out.drew);generalize w3.drew=w4 at *;go_wp2_with fail;refine HW3.out.mono ?_;rintro e w5 ⟨rfl,hr⟩;have HT5:=hid (show LTo w D M (dI d l n s true) l w5 from by
     obtain ⟨D5,e1,e2,e3,e4⟩:=hr;obtain ⟨a1,a2,a3,a4,a7,a5,a6,a8⟩:=H1.out;have h35:Ch D1.F wb w5:=(Ch.of_below HB3d.out).trans e4;have hs:=HB3d.out.size;refine ⟨D5,M1,e1,a2,e2,a4.ch h35 fun k hk hs=>a7 k hs hk,fun k hk=>?_,a6,fun k hk hl=>?_,a8.then h35 fun k hk=>(a5 k hk).imp .inl id⟩
     ·rcases e3 k hk with e | e
      ·exact a5 k e
      ·have:=a8.size;right;omega
     ·rcases e3 k hk with e | e
      ·exact a7 k e hl
      ·have:=a4.lt hl;omega)
    clear hr c0 c1 cl;obtain ⟨D5,M5,b1,b2,b3,b4,b5,b6,b7,b8⟩:=HT5.out;obtain ⟨c0,c1,c2,cl,-⟩:=br b4.blk;obtain ⟨A5,c5,hv5,hcc5⟩:=aD b4.row;rw [b2] at c0 c1 c2 cl;rw [hv5] at c1;have hK:=dE l;have hlen:l.length<9223372036854775807:=by omega
    obtain ⟨w6,hrun,hm6,hgr⟩:=(b4.map.ch (S:=fun _=>False) (Ch.drew (Ch.refl _ _)) id).set zy (a:=(n:Int)) (bD (by have:=HNS.out.1;omega)) (l.length:Int) (by unfold maxLen;omega);have hc6:Ch (fun k=>k=M5.gm) w5 w6:=(Ch.drew (Ch.refl _ _)).trans (Ch.of_grown hgr fun k hk=>by injection hk with hk;exact hk.symm);have HM6:=hid (And.intro hm6 hc6);have HV5:=hid hv5;unfold ny at hrun;go_wp2_with fail;go_region;clear c0 c1 c2 cl hrun;have hb6:w6.heap[M5.gl]?=some (uz D.gd M5):=hc6.keep b4.blk b4.n1;have hr6:Own tz 3 214 0 w6 M5.vf l:=b4.row.ch hc6 fun k hk e=>b4.n3 (e ▸ hk)
    obtain ⟨c0,c1,c2,cl,-⟩:=br hb6;rw [b2] at c0 c1 c2 cl;rw [hv5] at c1;rw [hv5] at hr6;have HN2:=hid (show ∀ k,(Value.slice A5 l.length c5).ownBlock=some k→k≠M5.gl from fun k hk e=>b4.n2 (by rw [hv5];exact e ▸ hk));have HB6:=hid (And.intro hb6 hr6);have HB4:=hid b4;have HB5:=hid (And.intro b1 (And.intro b2 (And.intro b3 (And.intro b5 (And.intro b6 (And.intro b7 b8))))));clear hb6 hr6 b1 b3 b4 b5 b6 b7 b8 hm6 hc6 hgr c2 c0;go_upto_region 19 with fail
    go_region_with (
     go_at_call 211;refine (HSS.out _).mono ?_;rintro e w7 ⟨rfl,hb7⟩;have HB7:=hid (show Below w6.heap.size w6 w7 from ((Below.refl _ w6).drew).trans hb7);clear hb7;obtain ⟨d0,d1,d2,dl,-⟩:=br ((Ch.of_below (S:=fun _=>False) HB7.out).keep HB6.out.1 id);rw [b2] at d0 d1 d2 dl;rw [hv5] at d1;obtain ⟨v2',w9,hr9,ho2,hg2,hat2⟩:=aZ (P:=Tryz.prog) yT 194 ((HB6.out.2.below HB7.out).below ((Below.refl w7.heap.size w7).alloc (Nat.le_refl _) _)) (Sl.one (w0:=w7) (e:=214) (cs:=#[.int .i64 n,.int .u64 (cb (dO l n s true)),.bool true]) (c:=1) ⟨n,cb (dO l n s true),true⟩ (by rfl) fK (by rfl)) (by simp [maxLen];omega) (by simp;omega) (Nat.zero_le _);have hr9':(dU #[194,194] 194 #[.slice A5 l.length c5,.slice (some ⟨w7.heap.size,0,none⟩) 1 1]).run Tryz.prog (w7.alloc (.cells #[.int .i64 n,.int .u64 (cb (dO l n s true)),.bool true] 214))=.ok v2' w9:=hr9;have hb9:w9.heap[M5.gl]?=some (uz D.gd M5):=(Ch.of_grown hg2 (fun k hk=>hk):Ch (fun k=>(Value.slice A5 l.length c5).ownBlock=some k) _ w9).keep ((Ch.of_below (S:=fun _=>False) (HB7.out.trans (((Below.refl w7.heap.size w7).alloc (Nat.le_refl _) _).mono HB7.out.size))).keep HB6.out.1 id) (fun e=>HN2.out _ e rfl);obtain ⟨e0,e1,e2,el,ef⟩:=br hb9;have z9:=ef 1;rw [b2] at e0 e1 e2 el z9;rw [hv5] at e1;obtain ⟨A9,n9,c9,rfl⟩:=dW ho2;have HA9:=hid (And.intro ho2 (And.intro hg2 hat2));clear hb9 ef ho2 hg2 hat2 hr9)
    all_goals
     have HF:=hid (show LTo w D M (dI d l n s true) (cE l n s true) (w9.setCell ⟨M.gl,1,none⟩ (.slice A9 n9 c9)) from by
      obtain ⟨b1,b2,b3,b5,b6,b7,b8⟩:=HB5.out;have hq:=HB4.out.added (HB4.out.ok.add HH.out.2.2.2.n HNS.out.1 s true) HM6.out.1 HM6.out.2 (HB7.out.trans (((Below.refl w7.heap.size w7).alloc (Nat.le_refl _) _).mono HB7.out.size)) HA9.out.1 (by rw [HV5.out];exact HA9.out.2.1) (by rw [HV5.out];exact HA9.out.2.2);rw [b2] at hq;exact LTo.of b1 b2 b3 b5 b6 b7 b8 hq)
    all_goals go_wp2_with fail
    all_goals go_ret
    all_goals exact ⟨rfl,HF.out⟩
 | some f=>
   have hf2:f.now.length=l.length+1:=by
    rcases hc.file with ⟨h1,-,-⟩ | ⟨f',h1,h2⟩
    ·rw [hfl] at h1;cases h1
    ·rw [hfl] at h1;injection h1 with e;rw [e];exact h2
   rw [Dk.size_some hfl] at HS;have hz:(0:Int)≤(f.now.length:Int):=by omega
   have HTD:=hid (show fB d=d by unfold fB;rw [hfl];rfl);have HT:=hid (show LTo w D M (fB d) l w from by rw [HTD.out];exact LTo.refl h hl hx);generalize (f.now.length:Int)=z at *;have hd3:decide (z<0)=false:=decide_eq_false (by omega);clear h hl hx hc hn hs hfl k1 k2 k3 hsb hf2;cases c
   ·rw [show zF false=5 from rfl] at HCL;go_enter Tryz.func222,Tryz.ntmps222;go_wp2_with fail;refine HS.out.mono ?_;rintro e w1 ⟨rfl,rfl⟩;obtain ⟨D1,M1,a1,a2,a3,a4,a5,a6,a7,a8⟩:=HT.out;have HSM:=hid (iQ _ a4);rw [a2] at HSM;unfold ai at HSM;have H1:=hid (And.intro a1 (And.intro a2 (And.intro a3 (And.intro a4 (And.intro a7 (And.intro a5 (And.intro a6 a8)))))));clear a1 a2 a3 a4 a5 a6 a7 a8;go_wp2_with fail;refine HSM.out.mono ?_;rintro e w2 ⟨rfl,hb2⟩;have HB2:=hid hb2;clear hb2;go_wp2_with fail;refine (HCL.out _).mono ?_;rintro e w3 ⟨rfl,hb3⟩;have HB3:=hid (HB2.out.trans (hb3.mono HB2.out.size));have HD3:=hid (H1.out.2.2.1.ch (Ch.of_below (S:=fun _=>False) HB3.out) fun _ _ h=>h);have HL3:=hid (H1.out.2.2.2.1.below HB3.out);obtain ⟨c0,c1,c2,cl,-⟩:=br HL3.out.blk;obtain ⟨A,c,hv,hcc⟩:=aD HL3.out.row;have HV:=hid hv;rw [hv,H1.out.2.1] at c1;rw [H1.out.2.1] at c0 cl;unfold ai at c0;have HW3:=hid (HW.out D1 _ (HD3.out.ch (S:=fun _=>False) (Ch.drew (Ch.refl _ _)) fun _ _ h=>h));rw [H1.out.1] at HW3;clear hb3 hv c2;go_upto_region 15 with fail
    go_still_tail 11,(by kernel_rfl);change wpList _ _ _ _ _ w3.drew;have HB3d:=hid (HB3.out.drew);generalize w3.drew=w4 at *;go_wp2_with fail;refine HW3.out.mono ?_;rintro e w5 ⟨rfl,hr⟩;have HT5:=hid (show LTo w D M (dI d l n s false) l w5 from by
     obtain ⟨D5,e1,e2,e3,e4⟩:=hr;obtain ⟨a1,a2,a3,a4,a7,a5,a6,a8⟩:=H1.out;have h35:Ch D1.F w w5:=(Ch.of_below HB3d.out).trans e4;have hs:=HB3d.out.size;refine ⟨D5,M1,e1,a2,e2,a4.ch h35 fun k hk hs=>a7 k hs hk,fun k hk=>?_,a6,fun k hk hl=>?_,a8.then h35 fun k hk=>(a5 k hk).imp .inl id⟩
     ·rcases e3 k hk with e | e
      ·exact a5 k e
      ·have:=a8.size;right;omega
     ·rcases e3 k hk with e | e
      ·exact a7 k e hl
      ·have:=a4.lt hl;omega)
    clear hr c0 c1 cl;obtain ⟨D5,M5,b1,b2,b3,b4,b5,b6,b7,b8⟩:=HT5.out;obtain ⟨c0,c1,c2,cl,-⟩:=br b4.blk;obtain ⟨A5,c5,hv5,hcc5⟩:=aD b4.row;rw [b2] at c0 c1 c2 cl;rw [hv5] at c1;have hK:=dE l;have hlen:l.length<9223372036854775807:=by omega
    obtain ⟨w6,hrun,hm6,hgr⟩:=(b4.map.ch (S:=fun _=>False) (Ch.drew (Ch.refl _ _)) id).set zy (a:=(n:Int)) (bD (by have:=HNS.out.1;omega)) (l.length:Int) (by unfold maxLen;omega);have hc6:Ch (fun k=>k=M5.gm) w5 w6:=(Ch.drew (Ch.refl _ _)).trans (Ch.of_grown hgr fun k hk=>by injection hk with hk;exact hk.symm);have HM6:=hid (And.intro hm6 hc6);have HV5:=hid hv5;unfold ny at hrun;go_wp2_with fail;go_region;clear c0 c1 c2 cl hrun;have hb6:w6.heap[M5.gl]?=some (uz D.gd M5):=hc6.keep b4.blk b4.n1;have hr6:Own tz 3 214 0 w6 M5.vf l:=b4.row.ch hc6 fun k hk e=>b4.n3 (e ▸ hk)
    obtain ⟨c0,c1,c2,cl,-⟩:=br hb6;rw [b2] at c0 c1 c2 cl;rw [hv5] at c1;rw [hv5] at hr6;have HN2:=hid (show ∀ k,(Value.slice A5 l.length c5).ownBlock=some k→k≠M5.gl from fun k hk e=>b4.n2 (by rw [hv5];exact e ▸ hk));have HB6:=hid (And.intro hb6 hr6);have HB4:=hid b4;have HB5:=hid (And.intro b1 (And.intro b2 (And.intro b3 (And.intro b5 (And.intro b6 (And.intro b7 b8))))));clear hb6 hr6 b1 b3 b4 b5 b6 b7 b8 hm6 hc6 hgr c2 c0;go_upto_region 19 with fail
    go_region_with (
     go_at_call 211;refine (HSS.out _).mono ?_;rintro e w7 ⟨rfl,hb7⟩;have HB7:=hid (show Below w6.heap.size w6 w7 from ((Below.refl _ w6).drew).trans hb7);clear hb7;obtain ⟨d0,d1,d2,dl,-⟩:=br ((Ch.of_below (S:=fun _=>False) HB7.out).keep HB6.out.1 id);rw [b2] at d0 d1 d2 dl;rw [hv5] at d1;obtain ⟨v2',w9,hr9,ho2,hg2,hat2⟩:=aZ (P:=Tryz.prog) yT 194 ((HB6.out.2.below HB7.out).below ((Below.refl w7.heap.size w7).alloc (Nat.le_refl _) _)) (Sl.one (w0:=w7) (e:=214) (cs:=#[.int .i64 n,.int .u64 (cb (dO l n s false)),.bool false]) (c:=1) ⟨n,cb (dO l n s false),false⟩ (by rfl) fK (by rfl)) (by simp [maxLen];omega) (by simp;omega) (Nat.zero_le _);have hr9':(dU #[194,194] 194 #[.slice A5 l.length c5,.slice (some ⟨w7.heap.size,0,none⟩) 1 1]).run Tryz.prog (w7.alloc (.cells #[.int .i64 n,.int .u64 (cb (dO l n s false)),.bool false] 214))=.ok v2' w9:=hr9;have hb9:w9.heap[M5.gl]?=some (uz D.gd M5):=(Ch.of_grown hg2 (fun k hk=>hk):Ch (fun k=>(Value.slice A5 l.length c5).ownBlock=some k) _ w9).keep ((Ch.of_below (S:=fun _=>False) (HB7.out.trans (((Below.refl w7.heap.size w7).alloc (Nat.le_refl _) _).mono HB7.out.size))).keep HB6.out.1 id) (fun e=>HN2.out _ e rfl);obtain ⟨e0,e1,e2,el,ef⟩:=br hb9;have z9:=ef 1;rw [b2] at e0 e1 e2 el z9;rw [hv5] at e1;obtain ⟨A9,n9,c9,rfl⟩:=dW ho2;have HA9:=hid (And.intro ho2 (And.intro hg2 hat2));clear hb9 ef ho2 hg2 hat2 hr9)
    all_goals
     have HF:=hid (show LTo w D M (dI d l n s false) (cE l n s false) (w9.setCell ⟨M.gl,1,none⟩ (.slice A9 n9 c9)) from by
      obtain ⟨b1,b2,b3,b5,b6,b7,b8⟩:=HB5.out;have hq:=HB4.out.added (HB4.out.ok.add HH.out.2.2.2.n HNS.out.1 s false) HM6.out.1 HM6.out.2 (HB7.out.trans (((Below.refl w7.heap.size w7).alloc (Nat.le_refl _) _).mono HB7.out.size)) HA9.out.1 (by rw [HV5.out];exact HA9.out.2.1) (by rw [HV5.out];exact HA9.out.2.2);rw [b2] at hq;exact LTo.of b1 b2 b3 b5 b6 b7 b8 hq)
    all_goals go_wp2_with fail
    all_goals go_ret
    all_goals exact ⟨rfl,HF.out⟩
   ·rw [show zF true=6 from rfl] at HCL;go_enter Tryz.func222,Tryz.ntmps222;go_wp2_with fail;refine HS.out.mono ?_;rintro e w1 ⟨rfl,rfl⟩;obtain ⟨D1,M1,a1,a2,a3,a4,a5,a6,a7,a8⟩:=HT.out;have HSM:=hid (iQ _ a4);rw [a2] at HSM;unfold ai at HSM;have H1:=hid (And.intro a1 (And.intro a2 (And.intro a3 (And.intro a4 (And.intro a7 (And.intro a5 (And.intro a6 a8)))))));clear a1 a2 a3 a4 a5 a6 a7 a8;go_wp2_with fail;refine HSM.out.mono ?_;rintro e w2 ⟨rfl,hb2⟩;have HB2:=hid hb2;clear hb2;go_wp2_with fail;refine (HCL.out _).mono ?_;rintro e w3 ⟨rfl,hb3⟩;have HB3:=hid (HB2.out.trans (hb3.mono HB2.out.size));have HD3:=hid (H1.out.2.2.1.ch (Ch.of_below (S:=fun _=>False) HB3.out) fun _ _ h=>h);have HL3:=hid (H1.out.2.2.2.1.below HB3.out);obtain ⟨c0,c1,c2,cl,-⟩:=br HL3.out.blk;obtain ⟨A,c,hv,hcc⟩:=aD HL3.out.row;have HV:=hid hv;rw [hv,H1.out.2.1] at c1;rw [H1.out.2.1] at c0 cl;unfold ai at c0;have HW3:=hid (HW.out D1 _ (HD3.out.ch (S:=fun _=>False) (Ch.drew (Ch.refl _ _)) fun _ _ h=>h));rw [H1.out.1] at HW3;clear hb3 hv c2;go_upto_region 15 with fail
    go_still_tail 11,(by kernel_rfl);change wpList _ _ _ _ _ w3.drew;have HB3d:=hid (HB3.out.drew);generalize w3.drew=w4 at *;go_wp2_with fail;refine HW3.out.mono ?_;rintro e w5 ⟨rfl,hr⟩;have HT5:=hid (show LTo w D M (dI d l n s true) l w5 from by
     obtain ⟨D5,e1,e2,e3,e4⟩:=hr;obtain ⟨a1,a2,a3,a4,a7,a5,a6,a8⟩:=H1.out;have h35:Ch D1.F w w5:=(Ch.of_below HB3d.out).trans e4;have hs:=HB3d.out.size;refine ⟨D5,M1,e1,a2,e2,a4.ch h35 fun k hk hs=>a7 k hs hk,fun k hk=>?_,a6,fun k hk hl=>?_,a8.then h35 fun k hk=>(a5 k hk).imp .inl id⟩
     ·rcases e3 k hk with e | e
      ·exact a5 k e
      ·have:=a8.size;right;omega
     ·rcases e3 k hk with e | e
      ·exact a7 k e hl
      ·have:=a4.lt hl;omega)
    clear hr c0 c1 cl;obtain ⟨D5,M5,b1,b2,b3,b4,b5,b6,b7,b8⟩:=HT5.out;obtain ⟨c0,c1,c2,cl,-⟩:=br b4.blk;obtain ⟨A5,c5,hv5,hcc5⟩:=aD b4.row;rw [b2] at c0 c1 c2 cl;rw [hv5] at c1;have hK:=dE l;have hlen:l.length<9223372036854775807:=by omega
    obtain ⟨w6,hrun,hm6,hgr⟩:=(b4.map.ch (S:=fun _=>False) (Ch.drew (Ch.refl _ _)) id).set zy (a:=(n:Int)) (bD (by have:=HNS.out.1;omega)) (l.length:Int) (by unfold maxLen;omega);have hc6:Ch (fun k=>k=M5.gm) w5 w6:=(Ch.drew (Ch.refl _ _)).trans (Ch.of_grown hgr fun k hk=>by injection hk with hk;exact hk.symm);have HM6:=hid (And.intro hm6 hc6);have HV5:=hid hv5;unfold ny at hrun;go_wp2_with fail;go_region;clear c0 c1 c2 cl hrun;have hb6:w6.heap[M5.gl]?=some (uz D.gd M5):=hc6.keep b4.blk b4.n1;have hr6:Own tz 3 214 0 w6 M5.vf l:=b4.row.ch hc6 fun k hk e=>b4.n3 (e ▸ hk)
    obtain ⟨c0,c1,c2,cl,-⟩:=br hb6;rw [b2] at c0 c1 c2 cl;rw [hv5] at c1;rw [hv5] at hr6;have HN2:=hid (show ∀ k,(Value.slice A5 l.length c5).ownBlock=some k→k≠M5.gl from fun k hk e=>b4.n2 (by rw [hv5];exact e ▸ hk));have HB6:=hid (And.intro hb6 hr6);have HB4:=hid b4;have HB5:=hid (And.intro b1 (And.intro b2 (And.intro b3 (And.intro b5 (And.intro b6 (And.intro b7 b8))))));clear hb6 hr6 b1 b3 b4 b5 b6 b7 b8 hm6 hc6 hgr c2 c0;go_upto_region 19 with fail
    go_region_with (
     go_at_call 211;refine (HSS.out _).mono ?_;rintro e w7 ⟨rfl,hb7⟩;have HB7:=hid (show Below w6.heap.size w6 w7 from ((Below.refl _ w6).drew).trans hb7);clear hb7;obtain ⟨d0,d1,d2,dl,-⟩:=br ((Ch.of_below (S:=fun _=>False) HB7.out).keep HB6.out.1 id);rw [b2] at d0 d1 d2 dl;rw [hv5] at d1;obtain ⟨v2',w9,hr9,ho2,hg2,hat2⟩:=aZ (P:=Tryz.prog) yT 194 ((HB6.out.2.below HB7.out).below ((Below.refl w7.heap.size w7).alloc (Nat.le_refl _) _)) (Sl.one (w0:=w7) (e:=214) (cs:=#[.int .i64 n,.int .u64 (cb (dO l n s true)),.bool true]) (c:=1) ⟨n,cb (dO l n s true),true⟩ (by rfl) fK (by rfl)) (by simp [maxLen];omega) (by simp;omega) (Nat.zero_le _);have hr9':(dU #[194,194] 194 #[.slice A5 l.length c5,.slice (some ⟨w7.heap.size,0,none⟩) 1 1]).run Tryz.prog (w7.alloc (.cells #[.int .i64 n,.int .u64 (cb (dO l n s true)),.bool true] 214))=.ok v2' w9:=hr9;have hb9:w9.heap[M5.gl]?=some (uz D.gd M5):=(Ch.of_grown hg2 (fun k hk=>hk):Ch (fun k=>(Value.slice A5 l.length c5).ownBlock=some k) _ w9).keep ((Ch.of_below (S:=fun _=>False) (HB7.out.trans (((Below.refl w7.heap.size w7).alloc (Nat.le_refl _) _).mono HB7.out.size))).keep HB6.out.1 id) (fun e=>HN2.out _ e rfl);obtain ⟨e0,e1,e2,el,ef⟩:=br hb9;have z9:=ef 1;rw [b2] at e0 e1 e2 el z9;rw [hv5] at e1;obtain ⟨A9,n9,c9,rfl⟩:=dW ho2;have HA9:=hid (And.intro ho2 (And.intro hg2 hat2));clear hb9 ef ho2 hg2 hat2 hr9)
    all_goals
     have HF:=hid (show LTo w D M (dI d l n s true) (cE l n s true) (w9.setCell ⟨M.gl,1,none⟩ (.slice A9 n9 c9)) from by
      obtain ⟨b1,b2,b3,b5,b6,b7,b8⟩:=HB5.out;have hq:=HB4.out.added (HB4.out.ok.add HH.out.2.2.2.n HNS.out.1 s true) HM6.out.1 HM6.out.2 (HB7.out.trans (((Below.refl w7.heap.size w7).alloc (Nat.le_refl _) _).mono HB7.out.size)) HA9.out.1 (by rw [HV5.out];exact HA9.out.2.1) (by rw [HV5.out];exact HA9.out.2.2);rw [b2] at hq;exact LTo.of b1 b2 b3 b5 b6 b7 b8 hq)
    all_goals go_wp2_with fail
    all_goals go_ret
    all_goals exact ⟨rfl,HF.out⟩
end Go.Proofs.YtdmhbgpejppbkaaGreat
namespace Go.Proofs.YtdmhbgpejppbkaaGreat
open Go.Lib (hid)
open Go.RowKit Go.Maps
section
variable {w w':World} {L:PgL} {P P':Pgr}
theorem eU (h:PgIs w L P) {M:LgM} (hG:L.G=some M):∀ k,L.D.F k→¬ iA M k:=fun k hk hl=>h.apart.dl k hk (by rw [hG];exact hl)
theorem PgIs.setDL (h:PgIs w L P) {M:LgM} {d:Dk} {x:List Fr} (hg:L.G=some M) (hj:LTo w L.D M d x w'):PTo w L { P with d:=d,lg:=some x } w':=by
 obtain ⟨D,M',e1,em,e2,e3,e4,e4b,e4c,e5⟩:=hj;have A:=h.apart;have lF:∀ k,mE L.G k↔iA M k:=fun k=>by rw [hg];rfl
 have hS:∀ k,(L.D.F k∨iA M k)→L.D.F k∨mE L.G k:=fun k hk=>hk.imp id (lF k).2
 have hnl:∀ k,iA M' k→mE L.G k∨w.heap.size≤k:=fun k hk=>(e4b k hk).imp (lF k).2 id
 refine ⟨{ L with D:=D,G:=some M' },rfl,PgIs.build ⟨h.ok.s1,h.ok.s2,h.ok.base,h.ok.hp,h.ok.wp,h.ok.nos⟩ ?_ e2 (h.ca.ch e5 fun k hk hs=>?_) (fun k hk=>Nat.lt_of_lt_of_le (h.calt k hk) e5.size) (by rw [show ({ L with D:=D,G:=some M' }:PgL).D.gd=L.D.gd from e1];exact (gY L.D.gd L.N P.notes).loc h.jn e5 fun k hk hs=>(hS _ hs).elim (fun e=>A.dj k e hk) fun e=>A.jl k hk e) (h.sv.ch e5 fun k hk hs=>?_) (.inr ⟨M',x,rfl,rfl,by rw [show ({ L with D:=D,G:=some M' }:PgL).D.gd=L.D.gd from e1];exact e3⟩)
  ⟨fun hk=>?_,A.pc,A.pj,A.ps,fun k hk hc=>?_,fun k hk hc=>?_,fun k hk hc=>?_,A.cj,A.cs,A.js,fun hk=>?_,e4c,fun k hk hc=>?_,fun k hk hc=>?_,fun k hk hc=>?_⟩ (e1.trans h.gd),fun k hk=>?_,e5.mono fun k _ hk=>?_⟩
 ·have e:bX { L with D:=D,G:=some M' } { P with d:=d,lg:=some x }=bX L P:=by unfold bX bn;simp only [e1,hg,em]
  rw [e];exact e5.keep h.blk fun hk=>(hS _ hk).elim A.pd A.pl
 ·exact (hS _ hs).elim (fun e=>A.dc k e hk) (fun e=>A.cl k hk e)
 ·exact (hS _ hs).elim (fun e=>A.ds k e hk) (fun e=>A.sl k hk e)
 ·exact (e4 _ hk).elim A.pd fun e=>absurd (ab h.blk) (Nat.not_lt.2 e)
 ·exact (e4 _ hk).elim (fun e=>A.dc k e hc) fun e=>by have:=h.calt k hc;omega
 ·exact (e4 _ hk).elim (fun e=>A.dj k e hc) fun e=>by have:=h.lt (.inr (.inr (.inr (.inl hc))));omega
 ·exact (e4 _ hk).elim (fun e=>A.ds k e hc) fun e=>by have:=h.lt (.inr (.inr (.inr (.inr (.inl hc)))));omega
 ·exact (hnl _ hk).elim A.pl fun e=>absurd (ab h.blk) (Nat.not_lt.2 e)
 ·exact (hnl _ hc).elim (fun e=>A.cl k hk e) fun e=>by have:=h.calt k hk;omega
 ·exact (hnl _ hc).elim (fun e=>A.jl k hk e) fun e=>by have:=h.lt (.inr (.inr (.inr (.inl hk))));omega
 ·exact (hnl _ hc).elim (fun e=>A.sl k hk e) fun e=>by have:=h.lt (.inr (.inr (.inr (.inr (.inl hk)))));omega
 ·rcases hk with hk | hk | hk | hk | hk | hk
  ·exact .inl (.inl hk)
  ·exact (e4 _ hk).imp (fun e=>.inr (.inl e)) id
  ·exact .inl (.inr (.inr (.inl hk)))
  ·exact .inl (.inr (.inr (.inr (.inl hk))))
  ·exact .inl (.inr (.inr (.inr (.inr (.inl hk)))))
  ·exact (hnl _ hk).imp (fun e=>.inr (.inr (.inr (.inr (.inr e))))) id
 ·exact (hS _ hk).elim (fun e=>.inr (.inl e)) fun e=>.inr (.inr (.inr (.inr (.inr e))))
end
def Pgr.add (P:Pgr) (n:Nat) (s:By) (c:Bool):Pgr:=match P.lg with
 | some l=>{ P with d:=dI P.d l n s c,lg:=some (cE l n s c) }
 | none=>P
theorem pU (n:Nat) (s:By) (c:Bool) (w:World) {L:PgL} {P:Pgr} {l:List Fr} (h:PgIs w L P) (hlg:P.lg=some l) (hc:CanAdd P.d l) (hn:n<4096) (hs:s.length=232):
  Calls Tryz.prog 170 #[ai L.gp,.agg #[.int .i64 n,.string (aj s)],.bool c] w fun e w'=>e=.returned (.int .i64 0)∧PTo w L (P.add n s c) w':=by
 have hA:Below w.heap.size w (w.alloc (kS n s)):=(Below.refl _ w).alloc (Nat.le_refl _) _;obtain ⟨w0,hw0⟩:∃ w0,w.alloc (kS n s)=w0:=⟨_,rfl⟩;have hx:(w.alloc (kS n s)).heap[w.heap.size]?=some (kS n s):=af rfl;rw [hw0] at hA hx;obtain ⟨x0,x1,xl⟩:=vQ hx;have HA:=hid hA;have HH:=hid (h.below hA);obtain ⟨M,hM,hli⟩:=HH.out.haslg hlg;have hC:=ag HH.out.blk;have c9:=hC.c9;have hl:=hC.lt;have c23:=hC.c23;rw [hM] at c9;have HAD:=hid (fun (w1:World) (h1:Below w0.heap.size w0 w1)=>wH n s c w1 (HH.out.below h1).dk (hli.below h1) (eU HH.out hM) hc hn hs);have HE:=hid (show P.add n s c={ P with d:=dI P.d l n s c,lg:=some (cE l n s c) } by unfold Pgr.add;rw [hlg]);have HM:=hid hM;unfold bn ai kS at *;clear hA hx h hlg hc hn hs hC hli hM;go_enter Tryz.func170,Tryz.ntmps170;go_upto_region 1 with fail
 go_still_tail 9,(by kernel_rfl);change wpList _ _ _ _ _ w0.drew;have HB1:=hid ((Below.refl w0.heap.size w0).drew);have HAD1:=hid (HAD.out _ HB1.out);generalize w0.drew=w1 at *;go_wp2_with fail;refine HAD1.out.mono ?_;rintro e w2 ⟨rfl,hto⟩;have hto:=(HH.out.below HB1.out).setDL HM.out hto;rw [← HE.out] at hto;obtain ⟨L2,g2,p2,f2,k2⟩:=hto;have hC2:=ag p2.blk;have d23:=hC2.c23;have z23:=hC2.fz 23;have dl:=hC2.lt;have hq:PTo w2 L2 (P.add n s c) (w2.setCell ⟨L2.gp,23,none⟩ (.bool (P.add n s c).spoilt)):=p2.cell 23 (.bool (P.add n s c).spoilt) (ae p2.blk 23 (.bool (P.add n s c).spoilt)) rfl rfl rfl rfl rfl p2.ok;have HQ:=hid (PTo.pre (PTo.and g2 f2 k2 hq) (HA.out.trans (HB1.out.mono HA.out.size)));rw [g2] at d23 z23 dl HQ;have hsp:(P.add n s c).spoilt=P.spoilt:=by rw [HE.out]
 rw [hsp] at d23 HQ;clear g2 p2 f2 k2 hC2 hq hsp x0 x1 xl c9 c23 hl;cases hsp:P.spoilt
 ·rw [hsp] at d23 HQ;go_wp2_with fail;go_ret;exact ⟨rfl,HQ.out⟩
 ·rw [hsp] at d23 HQ;go_wp2_with fail;go_ret;exact ⟨rfl,HQ.out⟩
def Pgr.spill (P:Pgr) (n:Nat) (s:By):Pgr:=match P.lg with
 | some _=>P.add n s false
 | none=>P.spillJ n s
def gD (P:Pgr) (n:Nat) (s:By):Prop:=(P.lg=none∧CanSpillJ P n s)∨∃ l,P.lg=some l∧CanAdd P.d l∧n<4096∧s.length=232
theorem kJ {P:Pgr} (h:P.lg=none) (n:Nat) (s:By):P.spill n s=P.spillJ n s:=by unfold Pgr.spill;rw [h]
theorem kI {P:Pgr} {l:List Fr} (h:P.lg=some l) (n:Nat) (s:By):P.spill n s=P.add n s false:=by unfold Pgr.spill;rw [h]
theorem rt (n:Nat) (s:By) (w:World) {L:PgL} {P:Pgr} (h:PgIs w L P) (hc:gD P n s):
  Calls Tryz.prog 185 #[ai L.gp,.agg #[.int .i64 n,.string (aj s)]] w fun e w'=>e=.returned (.int .i64 0)∧PTo w L (P.spill n s) w':=by
 rcases hc with ⟨hlg,hc⟩ | ⟨l,hlg,hc,hn,hs⟩
 ·rw [kJ hlg];exact pQ n s w h hlg hc
 ·rw [kI hlg];have hA:Below w.heap.size w (w.alloc (kS n s)):=(Below.refl _ w).alloc (Nat.le_refl _) _;obtain ⟨w0,hw0⟩:∃ w0,w.alloc (kS n s)=w0:=⟨_,rfl⟩;have hx:(w.alloc (kS n s)).heap[w.heap.size]?=some (kS n s):=af rfl;rw [hw0] at hA hx;obtain ⟨x0,x1,xl⟩:=vQ hx;have HA:=hid hA;have HH:=hid (h.below hA);obtain ⟨M,hM,hli⟩:=HH.out.haslg hlg;have hC:=ag HH.out.blk;have c9:=hC.c9;have hl:=hC.lt;rw [hM] at c9;have HAD:=hid (pU n s false w0 HH.out hlg hc hn hs);unfold bn ai kS at *;clear hA hx h hlg hc hn hs hC hli hM;go_enter Tryz.func185,Tryz.ntmps185;go_upto_region 1 with fail
  go_wp2_with fail;refine HAD.out.mono ?_;rintro e w2 ⟨rfl,hto⟩;have HT:=hid (hto.pre HA.out);clear hto;go_wp2_with fail;go_ret;exact ⟨rfl,HT.out⟩
end Go.Proofs.YtdmhbgpejppbkaaGreat
namespace Go.Proofs.YtdmhbgpejppbkaaGreat
open Go.Lib (hid)
open Go.RowKit Go.Maps
theorem PgIs.putCa {w w':World} {L:PgL} {P:Pgr} (h:PgIs w L P) {F':Nat→Prop} {ca:List On} (hd:Ca w' F' L.vc P.size ca) (hF:∀ k,F' k→L.Fc k∨w.heap.size≤k) (hc:Ch L.Fc w w'):
  ∃ G:List Nat,(∀ k ∈ G,F' k)∧PgIs w' { L with Fc:=fun k=>k ∈ G } { P with ca:=ca }∧(∀ k,({ L with Fc:=fun k=>k ∈ G }:PgL).F k→L.F k∨w.heap.size≤k)∧Ch L.F w w':=by
 obtain ⟨G,h1,h2⟩:=hd.lt;refine ⟨G,fun k hk=>(h1 k hk).2,h.setCa h2 (fun k hk=>(h1 k hk).1) (fun k hk=>hF k (h1 k hk).2) hc (fun _ hk=>hk),fun k hk=>?_,hc.mono fun k _ hk=>.inr (.inr (.inl hk))⟩;rcases hk with hk | hk | hk | hk
 ·exact .inl (.inl hk)
 ·exact .inl (.inr (.inl hk))
 ·exact (hF k (h1 k hk).2).imp (fun e=>.inr (.inr (.inl e))) id
 ·exact .inl (.inr (.inr (.inr hk)))
def Pgr.spills (P:Pgr) (l:List Pg):Pgr:=l.foldl (fun Q x=>Q.spill x.n.toNat (bs x.s)) P
def Pgr.putc (P:Pgr) (n:Nat) (s:By) (d:Bool):Pgr:={ P with ca:=(fZ P.size n (aj s) d P.ca).1 }
def Pgr.gone (P:Pgr) (n:Nat) (s:By) (d:Bool):List Pg:=(fZ P.size n (aj s) d P.ca).2
def Pgr.hold (P:Pgr) (n:Nat) (s:By) (d:Bool):Pgr:=(P.putc n s d).spills (P.gone n s d)
def bU (P:Pgr) (l:List Pg):Prop:=∀ k x,l[k]?=some x→0≤x.n∧gD (P.spills (l.take k)) x.n.toNat (bs x.s)
theorem tW (P:Pgr) (l:List Pg) {k:Nat} (h:k<l.length):P.spills (l.take (k+1))=(P.spills (l.take k)).spill (l[k]).n.toNat (bs (l[k]).s):=by unfold Pgr.spills;rw [List.take_succ_eq_append_getElem h,List.foldl_append];rfl
theorem cY (n:Nat) (s:By) (d:Bool) (w:World) {L:PgL} {P:Pgr} (h:PgIs w L P) (hn:n<4096) (hl:(P.gone n s d).length≤1000) (hc:bU (P.putc n s d) (P.gone n s d)):
  Calls Tryz.prog 123 #[ai L.gp,.int .i64 n,.string (aj s),.bool d] w fun e w'=>e=.returned (.int .i64 0)∧PTo w L (P.hold n s d) w':=by
 have HH:=hid h;have hC:=ag h.blk;have c1:=hC.c1;have hgl:=hC.lt;have HPT:=hid (AH n (aj s) d w h.ca (bD (by omega)) h.ok.s1 h.ok.s2);have HC:=hid hc;have HLN:=hid hl;clear hC h hn hc hl;unfold ai at *;go_enter Tryz.func123,Tryz.ntmps123;go_wp2_with fail;refine HPT.out.mono ?_;rintro e w1 ⟨r,F',rfl,hca,hsl,hnew,hrF,hF,hch⟩;obtain ⟨G,hG,p1,f1,k1⟩:=HH.out.putCa hca hF hch;obtain ⟨l,hlg⟩:∃ l,l=P.gone n s d:=⟨_,rfl⟩;have hsl2:Sl Pg.cells 2 w1 r l:=by rw [hlg];exact hsl
 rw [← hlg] at HC HLN
 have hro:∀ k,r.ownBlock=some k→¬ ({ L with Fc:=fun k=>k ∈ G }:PgL).F k:=fun k hk hf=>by
  have hge:=hnew k hk;rcases hf with hf | hf | hf | hf | hf
  ·have:=ab HH.out.blk;have hf:k=L.gp:=hf;omega
  ·have:=HH.out.lt (.inr (.inl hf));omega
  ·exact hrF k hk (hG k hf)
  ·have:=HH.out.lt (.inr (.inr (.inr (.inl hf))));omega
  ·have:=HH.out.lt (.inr (.inr (.inr (.inr hf))));omega
 have HP1:=hid p1;have HT1:=hid (And.intro f1 k1);have HSL:=hid hsl2;have HRO:=hid hro;have HLG:=hid hlg;obtain ⟨A,c,rfl⟩:=Sl.len' hsl2;clear hca hsl hnew hrF hF hch hG p1 f1 k1 hlg hsl2 hro c1 hgl;have HG1:=hid (show ({ L with Fc:=fun k=>k ∈ G }:PgL).gp=L.gp from rfl);generalize ({ L with Fc:=fun k=>k ∈ G }:PgL)=L1 at *;go_wp2_with fail;go_loopw [21] (fun iv wr=>∃ k:Nat,k≤l.length∧iv=.int .i64 k∧PTo w1 L1 ((P.putc n s d).spills (l.take k)) wr) (fun iv _=>l.length - (intOf iv).toNat)
 case atStart=>exact ⟨0,Nat.zero_le _,rfl,PTo.refl HP1.out⟩
 case round=>
  obtain ⟨k,hk,rfl,hto⟩:=hrel;have HTO:=hid hto;obtain ⟨L2,g2,p2,f2,c2⟩:=hto;have HS2:=dV HSL.out c2 HRO.out;have HP2:=hid p2;have HG2:=hid (And.intro g2 (And.intro f2 c2));clear g2 p2 f2 c2;by_cases hlt:k<l.length
  ·obtain ⟨b,off,c',he,hbl,hcells⟩:=HS2.at1 hlt;injection he with he1 he2 he3
   subst he1 he3;have hcs:=HC.out k l[k] (List.getElem?_eq_getElem hlt);have hup:=tW (P.putc n s d) l hlt;have hk0:(0:Int)≤(k:Int):=by omega
   have hk1:(k:Int)<(l.length:Int):=by omega
   have HK:=hid (And.intro hk hlt);generalize l[k]=x at *;obtain ⟨xn,xs⟩:=x;obtain ⟨hx0,hx1⟩:=hcs;simp only at hx0 hx1 hup;obtain ⟨m,rfl⟩:∃ m:Nat,xn=m:=⟨xn.toNat,by omega⟩;obtain ⟨t,rfl⟩:∃ t,xs=aj t:=⟨bs xs,(eL xs).symm⟩;rw [aR,Int.toNat_natCast] at hx1 hup;have e0:wr.cell? ⟨b,off+k * 2,none⟩=some (.int .i64 m):=hcells 0 _ rfl;have e1:wr.cell? ⟨b,off+k * 2+1,none⟩=some (.string (aj t)):=hcells 1 _ rfl;have HUP:=hid hup;have hA:Below wr.heap.size wr (wr.alloc (kS m t)):=(Below.refl _ wr).alloc (Nat.le_refl _) _;have HA:=hid hA;have HSP:=hid (rt m t _ (HP2.out.below hA) hx1);rw [HG2.out.1,HG1.out] at HSP;unfold ai kS at HSP;clear hcells hx1 hup HS2 hx0 hk hA;go_wp2_with fail;refine HSP.out.mono ?_;rintro e w3 ⟨rfl,hr⟩;have HR:=hid (show PTo w1 L1 ((P.putc n s d).spills (l.take (k+1))) w3 from by
    rw [HUP.out];exact PTo.and HG2.out.1 HG2.out.2.1 HG2.out.2.2 (PTo.pre hr HA.out))
   clear hr;have hl2:(k:Int)<1000:=by have:=HLN.out;omega
   go_wp2_with fail;go_roundw
   case rel=>exact ⟨k+1,by have:=HK.out;omega,by go_num,HR.out⟩
   case measure=>simp [intOf];omega
  ·obtain rfl:k=l.length:=by omega
   have HR:=hid (show PTo w L (P.hold n s d) wr from by
    have h1:=HTO.out;rw [List.take_length,HLG.out] at h1;exact PTo.and HG1.out HT1.out.1 HT1.out.2 h1)
   go_wp2_with fail;go_ret;exact ⟨rfl,HR.out⟩
def aF (d:Dk) (n:Nat) (s:By):Prop:=∃ f,d.file aA=some f∧f.now[n]?=some (aI 1 n 0 s)
theorem vF {w:World} {n:Nat} {s:By}:(w.alloc (bq 1 n 0 (aj s))).heap[w.heap.size]?=some (bq 1 n 0 (aj s)):=af rfl
theorem ju (n:Nat) (s:By) (w:World) {L:PgL} {P:Pgr} (h:PgIs w L P) (hf:P.d.Fine) (hd:aF P.d n s) (hn:n<4294967296) (hs:s.length=232):
  Calls Tryz.prog 103 #[ai L.gp,.int .i64 n] w fun e w'=>e=.returned (.tuple #[.string (aj s),.int .i64 0])∧PTo w L P w':=by
 have HH:=hid h;obtain ⟨f,hf1,hf2⟩:=hd;obtain ⟨r1,r2⟩:=hf.rd (n:=aA) (by decide) hf1 hf2;have hC:=ag h.blk;have c0:=hC.c0;have hl:=hC.lt;have HRD:=hid (kN aA (by decide) n w h.dk);rw [r1,r2,hf.s (by decide)] at HRD;have HOP:=hid (fun w=>show Calls Tryz.prog 154 #[.string (aj (aI 1 n 0 s))] w fun e w'=>e=.returned (.tuple #[.agg #[.int .i64 1,.int .i64 n,.int .u64 0,.string (aj s)],.int .i64 0])∧Below w.heap.size w w' from kY 1 n 0 s w (by decide) hn (by decide) hs);unfold ai cZ at *;rw [uw] at HRD;generalize aI 1 n 0 s=sec at *;clear h hf hf1 hf2 r1 r2 hC hn hs;go_enter Tryz.func103,Tryz.ntmps103;go_wp2_with fail;refine HRD.out.mono ?_;rintro e w1 ⟨rfl,hd1,hc1⟩;have HT:=hid (show PTo w L P w1 from PTo.dk HH.out ⟨L.D,rfl,hd1,fun _ hk=>.inl hk,hc1.mono fun k _ e=>.inl e⟩);clear hd1 hc1;go_wp2_with fail;refine (HOP.out w1).mono ?_;rintro e w2 ⟨rfl,hb⟩;have HT2:=hid ((HT.out.post hb).post ((Below.refl w2.heap.size w2).alloc (Nat.le_refl _) (bq 1 n 0 (aj s))));have q:=vF (w:=w2) (n:=n) (s:=s);obtain ⟨q0,q1,q2,q3,q4⟩:=gH q;clear hb q;go_upto_region 9 with fail
 have hw3:∃ w3,w2.alloc (bq 1 n 0 (aj s))=w3:=⟨_,rfl⟩;obtain ⟨w3,hw3⟩:=hw3;change Code.wp _ _ _ _ (w2.alloc (bq 1 n 0 (aj s)));rw [hw3] at q0 q1 q2 q3 q4 HT2 ⊢;have q0:w3.cell? ⟨w2.heap.size,0,none⟩=some (.int .i64 1):=q0;clear q2 hw3;go_wp2_with fail;go_ret2;exact ⟨rfl,HT2.out⟩
def bu (P:Pgr) (n:Nat) (s:By):Prop:=match P.lg with
 | none=>aF P.d n s
 | some l=>LgHas P.d l n s∨(aC (bA l) (n:Int)=none∧aF P.d n s)
theorem aU {P:Pgr} (h:P.lg=none) {n:Nat} {s:By}:bu P n s↔aF P.d n s:=by unfold bu;rw [h]
theorem eH {P:Pgr} {l:List Fr} (h:P.lg=some l) {n:Nat} {s:By}:bu P n s↔LgHas P.d l n s∨(aC (bA l) (n:Int)=none∧aF P.d n s):=by unfold bu;rw [h]
theorem uh (n:Nat) (s:By) (w:World) {L:PgL} {P:Pgr} (h:PgIs w L P) (hf:P.d.Fine) (hd:bu P n s) (hn:n<4096) (hs:s.length=232):
  Calls Tryz.prog 122 #[ai L.gp,.int .i64 n] w fun e w'=>e=.returned (.tuple #[.string (aj s),.int .i64 0])∧PTo w L P w':=by
 have hC:=ag h.blk;have c9:=hC.c9;have hl:=hC.lt;cases hlg:P.lg with
 | none=> have HM:=hid (ju n s w h hf ((aU hlg).1 hd) (by omega) hs);rw [h.nolg hlg] at c9;unfold bn ai at *;clear h hf hd hn hs hC hlg;go_enter Tryz.func122,Tryz.ntmps122;go_wp2_with fail;refine HM.out.mono ?_;rintro e w1 ⟨rfl,hr⟩;have HR:=hid hr;clear hr;go_wp2_with fail;go_ret2;exact ⟨rfl,HR.out⟩
 | some l=>
   obtain ⟨M,hM,hli⟩:=h.haslg hlg;rw [hM] at c9;rcases (eH hlg).1 hd with hh | ⟨hno,hd⟩
   ·have HG:=hid (qq n s w h.dk hli hf hn hh);have HH:=hid h;unfold bn ai at *;clear h hf hd hn hs hC hlg hM hli hh;go_enter Tryz.func122,Tryz.ntmps122;go_wp2_with fail;refine HG.out.mono ?_;rintro e w1 ⟨rfl,hr⟩;have HR:=hid (PTo.dk HH.out hr);clear hr;go_wp2_with fail;go_ret2;exact ⟨rfl,HR.out⟩
   ·have HM:=hid (ju n s w h hf hd (by omega) hs);have HG:=hid (uy n w hli hn hno);unfold bn ai at *;clear h hf hd hn hs hC hlg hM hli hno;go_enter Tryz.func122,Tryz.ntmps122;go_wp2_with fail;refine HG.out.mono ?_;rintro e w1 ⟨rfl,rfl⟩;go_wp2_with fail;refine HM.out.mono ?_;rintro e w1 ⟨rfl,hr⟩;have HR:=hid hr;clear hr;go_wp2_with fail;go_ret2;exact ⟨rfl,HR.out⟩
theorem PgIs.getCa {w w':World} {L:PgL} {P:Pgr} (h:PgIs w L P) {ca:List On} (hd:Ca w' L.Fc L.vc P.size ca) (hc:Ch L.Fc w w'):PTo w L { P with ca:=ca } w':=
 ⟨L,rfl,h.setCa (F:=L.Fc) hd (fun k hk=>Nat.lt_of_lt_of_le (h.calt k hk) hc.size) (fun _ hk=>.inl hk) hc (fun _ hk=>hk),fun _ hk=>.inl hk,hc.mono fun _ _ hk=>.inr (.inr (.inl hk))⟩
def Pgr.fetch (P:Pgr) (n:Nat) (s:By):Pgr:=if (eB (n:Int) P.ca).2 then { P with ca:=kp (n:Int) P.ca } else P.hold n s false
structure CanFetch (P:Pgr) (n:Nat) (s:By):Prop where
 fine:P.d.Fine
 lt:n<4096
 len:s.length=232
 yes:(eB (n:Int) P.ca).2=true→(eB (n:Int) P.ca).1=aj s
 no:(eB (n:Int) P.ca).2=false→bu P n s∧(P.gone n s false).length≤1000∧bU (P.putc n s false) (P.gone n s false)
theorem yL {n:Int} {L:List On} (h:(eB n L).2=false):kp n L=L:=by
 unfold eB at h;unfold kp;cases hf:L.find? (fun x=>x.1 == n) with
 | none=>rfl
 | some x=>rw [hf] at h;cases h
theorem yK {n:Int} {L:List On} (h:(eB n L).2=false):(eB n L).1=⟨#[]⟩:=by
 unfold eB at h ⊢;cases hf:L.find? (fun x=>x.1 == n) with
 | none=>rfl
 | some x=>rw [hf] at h;cases h
theorem ey (n:Nat) (s:By) (w:World) {L:PgL} {P:Pgr} (h:PgIs w L P) (hc:CanFetch P n s):
  Calls Tryz.prog 62 #[ai L.gp,.int .i64 n] w fun e w'=>e=.returned (.tuple #[.string (aj s),.int .i64 0])∧PTo w L (P.fetch n s) w':=by
 have HH:=hid h;have hC:=ag h.blk;have c1:=hC.c1;have hl:=hC.lt;have HG:=hid (AI n w h.ca (bD (by have:=hc.lt;omega)));have HC:=hid hc;clear h hc hC;cases hy:(eB (n:Int) P.ca).2
 ·obtain ⟨hd,hlen,hcs⟩:=HC.out.no hy;have HF:=hid (show P.fetch n s=P.hold n s false by unfold Pgr.fetch;rw [hy];rfl);have HD:=hid (And.intro hd (And.intro hlen hcs));rw [yL hy,yK hy,hy] at HG;unfold ai at *;clear hd hlen hcs hy;go_enter Tryz.func62,Tryz.ntmps62;go_wp2_with fail;refine HG.out.mono ?_;rintro e w1 ⟨rfl,hca,hch⟩;have hto:PTo w L P w1:=HH.out.getCa hca hch;obtain ⟨L1,g1,p1,f1,k1⟩:=hto;have HRD:=hid (uh n s w1 p1 HC.out.fine HD.out.1 HC.out.lt HC.out.len);rw [g1] at HRD;have HP1:=hid (And.intro g1 (And.intro f1 k1));unfold ai at HRD;clear hca hch g1 p1 f1 k1;go_wp2_with fail;refine HRD.out.mono ?_;rintro e w2 ⟨rfl,hr⟩;have hr2:=PTo.and (L:=L) HP1.out.1 HP1.out.2.1 HP1.out.2.2 hr;obtain ⟨L2,g2,p2,f2,k2⟩:=hr2;have HHD:=hid (cY n s false w2 p2 HC.out.lt HD.out.2.1 HD.out.2.2);rw [g2] at HHD;unfold ai at HHD;have HT2:=hid (And.intro g2 (And.intro f2 k2));clear hr g2 p2 f2 k2;go_wp2_with fail;refine HHD.out.mono ?_;rintro e w3 ⟨rfl,hr⟩;have HT3:=hid (PTo.and (L:=L) HT2.out.1 HT2.out.2.1 HT2.out.2.2 hr);clear hr;go_wp2_with fail;go_ret2;exact ⟨rfl,by rw [HF.out];exact HT3.out⟩
 ·have HF:=hid (show P.fetch n s={ P with ca:=kp (n:Int) P.ca } by unfold Pgr.fetch;rw [hy];rfl);rw [HC.out.yes hy,hy] at HG;unfold ai at *;clear hy;go_enter Tryz.func62,Tryz.ntmps62;go_wp2_with fail;refine HG.out.mono ?_;rintro e w1 ⟨rfl,hca,hch⟩;have HT1:=hid (show PTo w L (P.fetch n s) w1 from by rw [HF.out];exact HH.out.getCa hca hch);clear hca hch;go_wp2_with fail;go_ret2;exact ⟨rfl,HT1.out⟩
end Go.Proofs.YtdmhbgpejppbkaaGreat
