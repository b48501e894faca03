/- disk: Write. -/
import Derived.Test.YtdmhbgpejppbkaaGreatXGam
import Derived.Deep.Cut
import Derived.Deep.CutRange
import Derived.Deep.RegionHeld3
set_option maxRecDepth 100000
set_option maxHeartbeats 40000000
namespace Go.Proofs.YtdmhbgpejppbkaaGreat
open Go.Lib (hid)
open Go.RowKit Go.Maps
structure WrA (w1 w:World) (L:DkM) (d:Dk) (n:By) (g:Nat) (mo:FilM) (f:Fi):Prop where
 dk:DkIs w L d
 fi:FilIs w L.C L.E g mo f
 fe:(d.file n).getD .empty=f
 at_:((n,g) ∈ L.K∧L.M g=mo)∨(n ∉ L.K.map (·.1)∧∀ k,mo.own g k→¬ L.F k)
 nw:∀ k,mo.own g k→L.F k∨w1.heap.size≤k
 bl:Below w1.heap.size w1 w
theorem WrA.below {w1 w w2:World} {L:DkM} {d:Dk} {n:By} {g:Nat} {mo:FilM} {f:Fi} (h:WrA w1 w L d n g mo f) (hb:Below w.heap.size w w2):WrA w1 w2 L d n g mo f:=
 ⟨h.dk.ch (S:=fun _=>False) (Ch.of_below hb) (fun _ _ h=>h),h.fi.ch (S:=fun _=>False) (Ch.of_below hb) (fun _ _ h=>h),h.fe,h.at_,h.nw,h.bl.trans (hb.mono h.bl.size)⟩
def filZ:FilM:=⟨.slice none 0 0,.slice none 0 0,.slice none 0 0,[],[]⟩
theorem WrA.new {w1:World} {L:DkM} {d:Dk} {n:By} (h:DkIs w1 L d) (hn:d.file n=none):WrA w1 (w1.alloc (wW filZ false)) L d n w1.heap.size filZ .empty:=by
 have hb:Below w1.heap.size w1 (w1.alloc (wW filZ false)):=(Below.refl _ w1).alloc (Nat.le_refl _) _
 have hown:∀ k,filZ.own w1.heap.size k→k=w1.heap.size:=fun k hk=>by
  rcases hk with hk | hk | hk | hk
  ·exact hk
  ·cases hk
  ·cases hk
  ·cases hk
 refine ⟨h.ch (S:=fun _=>False) (Ch.of_below hb) (fun _ _ h=>h),⟨af rfl,Own.nil,Own.nil,Own.nil,rfl,rfl,fun p hp=>(by cases hp),fun p hp=>(by cases hp),fun h=>(by cases h),fun h=>(by cases h),fun h=>(by cases h),Dis.nil,Dis.nil,Dis.nil⟩,by rw [hn];rfl,.inr ⟨fun hm=>?_,fun k hk hF=>?_⟩,fun k hk=>.inr (by rw [hown k hk];exact Nat.le_refl _),hb⟩
 ·rw [← h.fls] at hm;obtain ⟨p,hp,rfl⟩:=List.mem_map.1 hm;have:=ci h.ok.nd (show (p.1,p.2) ∈ d.files from hp);unfold Dk.file at hn;rw [hn] at this;cases this
 ·have:=h.lt hF;rw [hown k hk] at this;omega
theorem WrA.old {w1:World} {L:DkM} {d:Dk} {n:By} {g:Nat} {f:Fi} (h:DkIs w1 L d) (hf:d.file n=some f) (hm:(n,g) ∈ L.K) (hi:FilIs w1 L.C L.E g (L.M g) f):WrA w1 w1 L d n g (L.M g) f:=
 ⟨h,hi,by rw [hf];rfl,.inl ⟨hm,rfl⟩,fun k hk=>.inl (.inr (.inr (.inr ⟨_,hm,hk⟩))),Below.refl _ _⟩
structure AdJ (g:Nat) (n0 f0 n1 f1 n2 f2:Bool) (v108 v109 v110 v111 v112 v113:Value):Prop where
 v108:n0=true→v108=ai g
 v109:f0=true→v109=.pointer (some ⟨g,0,none⟩)
 v110:n1=true→v110=ai g
 v111:f1=true→v111=.pointer (some ⟨g,1,none⟩)
 v112:n2=true→v112=ai g
 v113:f2=true→v113=.pointer (some ⟨g,2,none⟩)
section
variable {g:Nat} {n0 f0 n1 f1 n2 f2:Bool} {v108 v109 v110 v111 v112 v113:Value}
theorem AdJ.start:AdJ g false false false false false false v108 v109 v110 v111 v112 v113:=⟨fun h=>(by cases h),fun h=>(by cases h),fun h=>(by cases h),fun h=>(by cases h),fun h=>(by cases h),fun h=>(by cases h)⟩
theorem AdJ.nc0 (h:AdJ g n0 f0 n1 f1 n2 f2 v108 v109 v110 v111 v112 v113):AdJ g true f0 n1 f1 n2 f2 (ai g) v109 v110 v111 v112 v113:={ h with v108:=fun _=>rfl }
theorem AdJ.nc1 (h:AdJ g n0 f0 n1 f1 n2 f2 v108 v109 v110 v111 v112 v113):AdJ g n0 f0 true f1 n2 f2 v108 v109 (ai g) v111 v112 v113:={ h with v110:=fun _=>rfl }
theorem AdJ.nc2 (h:AdJ g n0 f0 n1 f1 n2 f2 v108 v109 v110 v111 v112 v113):AdJ g n0 f0 n1 f1 true f2 v108 v109 v110 v111 (ai g) v113:={ h with v112:=fun _=>rfl }
theorem AdJ.fa0 (h:AdJ g n0 f0 n1 f1 n2 f2 v108 v109 v110 v111 v112 v113):AdJ g n0 true n1 f1 n2 f2 v108 (.pointer (some ⟨g,0,none⟩)) v110 v111 v112 v113:={ h with v109:=fun _=>rfl }
theorem AdJ.fa1 (h:AdJ g n0 f0 n1 f1 n2 f2 v108 v109 v110 v111 v112 v113):AdJ g n0 f0 n1 true n2 f2 v108 v109 v110 (.pointer (some ⟨g,1,none⟩)) v112 v113:={ h with v111:=fun _=>rfl }
theorem AdJ.fa2 (h:AdJ g n0 f0 n1 f1 n2 f2 v108 v109 v110 v111 v112 v113):AdJ g n0 f0 n1 f1 n2 true v108 v109 v110 v111 v112 (.pointer (some ⟨g,2,none⟩)):={ h with v113:=fun _=>rfl }
end
theorem ed (n:By) (hn:n.length≤1000) (i:Int) (s:By) (w:World) {L:DkM} {d:Dk} (h:DkIs w L d):
  Calls Tryz.prog 210 #[.pointer (some ⟨L.gd,0,none⟩),cZ n,.int .i64 i,.string (aj s)] w fun e w'=>e=.returned (.int .i64 (wrE d n i s))∧∃ L',L'.gd=L.gd∧DkIs w' L' (wrS d n i s)∧(∀ k,L'.F k→L.F k∨w.heap.size≤k)∧Ch L.F w w':=by
 have HH:=hid h;have hsz:(aj s).size=s.length:=aw s;clear h;go_enter Tryz.func210,Tryz.ntmps210;unfold cZ;by_cases hr:0≤i∧s.length=256
 ·obtain ⟨hi,hs⟩:=hr;have hd1:decide (i ≥ 0)=true:=decide_eq_true hi;have hs2:(s.length:Int)=256:=by omega
  go_wp2_with fail;refine (dG n hn true w HH.out).mono ?_;rintro e w1 ⟨v,rfl,hv,hd,hc⟩;have HR:=hid (show (decide (0≤i) && decide (s.length=256))=true by simp [hi,hs]);have HV:=hid hv;have HD:=hid hd;have HC:=hid hc;clear hv hd hc;obtain ⟨x,hx⟩:∃ x,dQ d n true=x:=⟨_,rfl⟩;rw [hx];by_cases hret:x≠0∧(x≠14∨0<i)
  ·have HE:=hid (show wrE d n i s=x∧wrS d n i s=dT d n true by
    have h1:wrE d n i s=x:=by unfold wrE;rw [HR.out,hx,if_pos hret]
    refine ⟨h1,?_⟩;unfold wrS;rw [if_neg (by rw [h1];exact hret.1),HR.out])
   have hx0:(x == 0)=false:=by simpa using hret.1
   by_cases hx14:x=14
   ·subst hx14;have hi0:0<i:=hret.2.resolve_left (by simp);go_wp2_with fail;go_ret;exact ⟨by rw [HE.out.1];rfl,L,rfl,by rw [HE.out.2];exact HD.out,fun k hk=>.inl hk,HC.out.mono fun k _ e=>.inl e⟩
   ·have hx1:(x == 14)=false:=by simpa using hx14
    go_wp2_with fail;go_ret;exact ⟨by rw [HE.out.1];rfl,L,rfl,by rw [HE.out.2];exact HD.out,fun k hk=>.inl hk,HC.out.mono fun k _ e=>.inl e⟩
  ·have hxx:x=0∨(x=14∧i=0):=by
    by_cases h0:x=0
    ·exact .inl h0
    ·right;have h2:=not_and.1 hret h0;rw [not_or] at h2;exact ⟨Classical.not_not.1 h2.1,by omega⟩
   go_upto_region 2 with fail
   go_cut [33] from 24 to 33 (fun c wx=>c=.bool false∧w1=wx)
   case first=>
    rcases hxx with rfl | ⟨rfl,rfl⟩
    ·go_wp2_with fail;go_meet
     case rel=>exact ⟨rfl,rfl⟩
    ·go_wp2_with fail;go_meet
     case rel=>exact ⟨rfl,rfl⟩
   case rest=>
   obtain ⟨rfl,rfl⟩:=hcut;have HVV:=hid (show (x=0∧∃ f g,d.file n=some f∧v=ai g∧(n,g) ∈ L.K∧FilIs w1 L.C L.E g (L.M g) f)∨(x=14∧i=0∧d.file n=none∧v=.pointer none) from by
    rcases hxx with rfl | ⟨rfl,rfl⟩
    ·left;obtain ⟨f,hf⟩:∃ f,d.file n=some f:=by
      cases hf:d.file n with
      | some f=>exact ⟨f,rfl⟩
      | none=>
        unfold dQ at hx;rw [hf] at hx
        split at hx
        ·contradiction
        ·cases hx
     obtain ⟨g,h1,h1m,h2⟩:=HD.out.fso (d:=dT d n true) (n:=n) (f:=f) (by rw [bT];exact hf);refine ⟨rfl,f,g,hf,?_,h1m,h2⟩;have hv:=HV.out;unfold FndP at hv;have h0:iw d n true=0:=by unfold dQ at hx;split at hx;contradiction;rename_i h;simpa using h
     rw [if_neg (by simpa using h0),h1] at hv;exact hv
    ·right;have hf:d.file n=none:=by
      cases hf:d.file n with
      | none=>rfl
      | some f=>
        unfold dQ at hx;rw [hf] at hx;by_cases h0:iw d n true=0
        ·rw [if_neg (by simpa using h0)] at hx;cases hx
        ·rw [if_pos h0] at hx;unfold iw at hx
         split at hx
         ·cases hx
         ·split at hx
          ·cases hx
          ·split at hx <;> cases hx
     refine ⟨rfl,rfl,hf,?_⟩;have hv:=HV.out;unfold FndP at hv;rw [HD.out.fno (d:=dT d n true) (by rw [bT];exact hf)] at hv
     split at hv <;> exact hv)
   go_upto_region 4 with fail
   go_cut [36] from 35 to 36 (fun c wx=>c=.bool (decide (x=14))∧w1=wx)
   case first=>
    rcases HVV.out with ⟨rfl,f,g,-,rfl,-⟩ | ⟨rfl,-,-,rfl⟩
    ·unfold ai;go_wp2_with fail;go_meet
     case rel=>exact ⟨rfl,rfl⟩
    ·go_wp2_with fail;go_meet
     case rel=>exact ⟨rfl,rfl⟩
   case rest=>
   obtain ⟨rfl,rfl⟩:=hcut;go_upto_if 36 with fail
   go_cut [9] from 36 to 38 (fun gv wx=>∃ g mo f,gv=ai g∧WrA w1 wx L (dT d n true) n g mo f)
   case first=>
    rcases HVV.out with ⟨rfl,f,g,hf,rfl,h1m,h2⟩ | ⟨rfl,rfl,hf,rfl⟩
    ·have HA:=hid (WrA.old HD.out (by rw [bT];exact hf) h1m h2);clear h2;unfold ai;go_wp2_with fail;go_meet
     case rel=>exact ⟨g,_,f,rfl,HA.out⟩
    ·have HN:=hid (WrA.new HD.out (n:=n) (by rw [bT];exact hf));go_wp2_with fail;go_meet
     case rel=>exact ⟨w1.heap.size,filZ,.empty,rfl,HN.out⟩
   case rest=>
   obtain ⟨g,mo,f,rfl,hA⟩:=hcut;have HA:=hid hA;have hff:(d.file n).getD .empty=f:=by have:=hA.fe;rw [bT] at this;exact this
   have HWE:=hid (show wrE d n i s=if f.now.length<i then 14 else if x=14∧8≤d.files.length then 12 else if i=f.now.length∧d.room≤d.total then 12 else 0 by
    unfold wrE;rw [HR.out,hx,if_neg hret,hff])
   have HWS:=hid (show wrE d n i s≠0→wrS d n i s=dT d n true by
    intro h0;unfold wrS;rw [if_neg h0,HR.out])
   have HCc:=hid (show Ch L.F w wc from (HC.out.mono fun k _ e=>.inl e).trans (Ch.of_below (show Below w1.heap.size w1 wc from hA.bl)));obtain ⟨A,cA,hvn⟩:=hA.fi.lenV;obtain ⟨b0,b1,b2,b3,hgl,-⟩:=bd hA.fi.blk;rw [hvn] at b0;obtain ⟨ops,hbk⟩:=hA.dk.blk;obtain ⟨c0,c1,-,-,-,-,-,-,hgdl,-⟩:=bH hbk;rw [wZ] at c1;have hml:=hA.dk.map.len fmT 3;have hkl:L.K.length=d.files.length:=by have:=congrArg List.length hA.dk.fls;rw [dH] at this;simpa using this.symm
   rw [hkl] at hml;have hfok:f.Ok:=by
    rw [← hff];cases hf:d.file n with
    | none=>exact ⟨rfl,rfl,fun _ h=>(by cases h),by simp [Fi.empty],fun _ h=>(by cases h)⟩
    | some f2=>exact cD HH.out.ok hf
   have hfn:=hfok.n;have hfew:=HH.out.ok.few;have hroom:=HH.out.ok.room;have htot:=px HH.out.ok;have HTC:=hid (fun y:Up wc=>(tP y.w (hA.dk.ch (S:=fun _=>False) (Ch.of_below y.h) (fun _ _ h=>h))).mono fun e w' (q:_∧_)=>(⟨by rw [q.1];unfold Dk.total;rw [dH],q.2⟩:e=.returned (.int .i64 d.total)∧Below y.w.heap.size y.w w'));clear hA hbk;unfold ai;by_cases hgt:f.now.length<i
   ·have HE:=hid (show wrE d n i s=14 by rw [HWE.out,if_pos hgt]);go_wp2_with fail;go_ret;exact ⟨by rw [HE.out];rfl,L,rfl,by rw [HWS.out (by rw [HE.out];decide)];exact HA.out.dk,fun k hk=>.inl hk,HCc.out⟩
   ·have hgt1:decide (i > (f.now.length:Int))=false:=decide_eq_false hgt;go_upto_region 8 with fail
    go_cut [47] from 48 to 57 (fun c wx=>c=.bool (decide (x=14∧8≤d.files.length))∧wc=wx)
    case first=>
     rcases hxx with rfl | ⟨rfl,-⟩
     ·go_wp2_with fail;go_meet
      case rel=>exact ⟨rfl,rfl⟩
     ·by_cases h8:8≤d.files.length
      ·have h8d:decide ((d.files.length:Int) ≥ 8)=true:=decide_eq_true (by omega);go_wp2_with fail;go_meet
       case rel=>exact ⟨by simp [h8],rfl⟩
      ·have h8d:decide ((d.files.length:Int) ≥ 8)=false:=decide_eq_false (by omega);go_wp2_with fail;go_meet
       case rel=>exact ⟨by simp [h8],rfl⟩
    case rest=>
    obtain ⟨rfl,rfl⟩:=hcut;by_cases hful:x=14∧8≤d.files.length
    ·have HE:=hid (show wrE d n i s=12 by rw [HWE.out,if_neg hgt,if_pos hful]);rw [decide_eq_true hful];go_wp2_with fail;go_ret;exact ⟨by rw [HE.out];rfl,L,rfl,by rw [HWS.out (by rw [HE.out];decide)];exact HA.out.dk,fun k hk=>.inl hk,HCc.out⟩
    ·rw [decide_eq_false hful];go_upto_region 9 with fail
     go_cut [47] from 58 to 73 (fun c wx=>c=.bool (decide (i=f.now.length∧d.room≤d.total))∧Below wc.heap.size wc wx)
     case first=>
      have u0:=ay b0 hgl;have u1:=ay c1 hgdl;have HTC':=HTC.out;by_cases hii:i=f.now.length
      ·have hie:(i == (f.now.length:Int))=true:=by simpa using hii
       have HII:=hid hii;clear hii;by_cases hrm:d.room≤d.total
       ·have hrd:decide ((d.total:Int) ≥ d.room)=true:=decide_eq_true hrm;refine am (by kernel_rfl) (by kernel_rfl) ?_
        repeat (go_big_quiet_step (first
         | (go_at_call 251;exact cF (HTC' _))))
        refine wpQuiet_nil ?_;rintro w' ⟨⟨w2,hb2⟩,rfl⟩;go_wp2_with fail;go_meet
        case rel=>exact ⟨by rw [decide_eq_true ⟨HII.out,hrm⟩],hb2⟩
       ·have hrd:decide ((d.total:Int) ≥ d.room)=false:=decide_eq_false hrm;refine am (by kernel_rfl) (by kernel_rfl) ?_
        repeat (go_big_quiet_step (first
         | (go_at_call 251;exact cF (HTC' _))))
        refine wpQuiet_nil ?_;rintro w' ⟨⟨w2,hb2⟩,rfl⟩;go_wp2_with fail;go_meet
        case rel=>exact ⟨by rw [decide_eq_false fun h=>by have:=h.2;omega],hb2⟩
      ·have hie:(i == (f.now.length:Int))=false:=by simpa using hii
       refine am (by kernel_rfl) (by kernel_rfl) ?_
       repeat (go_big_quiet_step (first
        | (go_at_call 251;exact cF (HTC' _))))
       refine wpQuiet_nil ?_;rintro w' ⟨⟨w2,hb2⟩,rfl⟩;go_wp2_with fail;go_meet
       case rel=>exact ⟨by rw [decide_eq_false fun h=>hii h.1],hb2⟩
     case rest=>
     obtain ⟨rfl,hb2⟩:=hcut;have HA2:=hid (HA.out.below hb2);have HC2:=hid (HCc.out.trans (Ch.of_below hb2));have HSZ:=hid hb2.size;clear hb2 b0 b1 b2 b3 c0 c1 hgl hgdl hml HTC;by_cases hrt:i=f.now.length∧d.room≤d.total
     ·have HE:=hid (show wrE d n i s=12 by rw [HWE.out,if_neg hgt,if_neg hful,if_pos hrt]);rw [decide_eq_true hrt];clear hrt;go_wp2_with fail;go_ret;exact ⟨by rw [HE.out];rfl,L,rfl,by rw [HWS.out (by rw [HE.out];decide)];exact HA2.out.dk,fun k hk=>.inl hk,HC2.out⟩
     ·rw [decide_eq_false hrt];obtain ⟨wa,hwa⟩:∃ wa,wa=wc:=⟨_,rfl⟩;subst hwa;have hkm:L.K.length<maxLen:=by unfold maxLen;omega
      obtain ⟨w3,hrun,hmap,hgr⟩:=HA2.out.dk.map.set fmT (a:=n) hn g hkm;have HMP:=hid hmap;have hcm:Ch (fun k=>k=L.gm) wa w3:=Ch.of_grown hgr fun k hk=>by injection hk with hk;exact hk.symm
      have hmog:∀ k,mo.own g k→k≠L.gm:=fun k hk e=>by
       rcases HA2.out.at_ with ⟨h1,h2⟩ | ⟨-,h2⟩
       ·exact (HA2.out.dk.fd _ h1 k (by rw [h2];exact hk)).2.1 e
       ·exact h2 k hk (.inr (.inl e))
      have HF3:=hid (HA2.out.fi.ch hcm hmog);have HC3:=hid hcm;unfold cZ ai at hrun;obtain ⟨ops2,hbk2⟩:=HA2.out.dk.blk;obtain ⟨c0,-,-,-,-,-,-,-,hgdl,-⟩:=bH hbk2;obtain ⟨b0,-,-,-,hgl,-⟩:=bd HF3.out.blk;rw [hvn] at b0;clear hmap hgr hcm hbk2;have HNR:=hid hrt;have HNF:=hid hful;have HNG:=hid hgt;clear hrt hful hgt hgt1 hff;go_upto_region 12 with fail
      go_cut [86] from 80 to 86 (fun c wx=>c=.bool (decide (i=f.now.length))∧w3=wx)
      case first=>
       by_cases hii:i=f.now.length
       ·have hie:(i == (f.now.length:Int))=true:=by simpa using hii
        have HII:=hid hii;clear hii;go_wp2_with fail;go_meet
        case rel=>exact ⟨by rw [decide_eq_true HII.out],rfl⟩
       ·have hie:(i == (f.now.length:Int))=false:=by simpa using hii
        go_wp2_with fail;go_meet
        case rel=>exact ⟨by rw [decide_eq_false hii],rfl⟩
      case rest=>
      obtain ⟨rfl,rfl⟩:=hcut;go_upto_if 86 with fail
      go_cut [] from 86 to 113 (fun wx=>∃ vn vs vw xs qs ws,FilR wx g vn vs vw xs qs ws f.sure∧Ch (mo.own g) w3 wx∧(∀ k,(k=g∨vn.ownBlock=some k∨vs.ownBlock=some k∨vw.ownBlock=some k)→mo.own g k∨w3.heap.size≤k)∧
       ((i=f.now.length∧xs=mo.ps.map some ++ [none]∧qs=mo.qs ++ [none]∧ws=f.waits ++ [false])∨(i<f.now.length∧xs=mo.ps.map some∧qs=mo.qs∧ws=f.waits)))
      case first=>
       by_cases hii:i=f.now.length
       ·rw [decide_eq_true hii];have HII:=hid hii;clear hii b0 c0 hrun;have hpl:mo.ps.length≤100000:=by have:=HF3.out.now;have h2:=congrArg List.length this;simp at h2;omega
        have hql:mo.qs.length≤100000:=by have:=HF3.out.safe;have h2:=congrArg List.length this;have:=hfok.ls;simp at h2;omega
        have hwl:f.waits.length≤100000:=by have:=hfok.lw;omega
        go_upto_region 13 with fail
        refine wp_region_held_drew (S:=fun _=>True) (by kernel_rfl) trivial (fun hHeld=>?_);refine Takes.start [0,1,2,3,4,5,9,10,11,15,16,17] ?_
        repeat
         refine Takes.cons (v:=?_) (by simp only [List.getElem?_toArray,List.getElem?_cons_succ,List.getElem?_cons_zero];rfl) (by kernel_rfl) (by kernel_rfl) (by kernel_rfl) (by exact fun _ _ _ h=>h) hHeld (by rfl) ?_ ?_
         rotate_left
         ·intro w hSw;go_simp
          try with_reducible rfl
         try simp only [Act.put,List.setIfInBounds_toArray,List.set_cons_zero,List.set_cons_succ]
        with_reducible refine Takes.nil ?_
        refine pp [93,94,95,99,100,101,105,106,107,108,109,110,111,112,113] (F:=[6,7,8,12,13,14,18,19,20,21,22,23,24,25,26,27,28,29]) (fun dd vv wn=>WrJ w3 g mo f (dd 6) (dd 7) (dd 8) (dd 12) (dd 13) (dd 14) (dd 18) (dd 19) (dd 20) (dd 23) (dd 26) (dd 29) (vv 93) (vv 94) (vv 95) (vv 99) (vv 100) (vv 101) (vv 105) (vv 106) (vv 107) wn∧AdJ g (dd 21) (dd 22) (dd 24) (dd 25) (dd 27) (dd 28) (vv 108) (vv 109) (vv 110) (vv 111) (vv 112) (vv 113))
         (fun _ _ _ _=>trivial) (by kernel_rfl) (by kernel_rfl) (by kernel_rfl) (by kernel_rfl) ⟨WrJ.start HF3.out,AdJ.start⟩ ?steps ?fin
        case steps=>
         refine ValSteps.consH (by simp only [List.getElem?_toArray,List.getElem?_cons_succ,List.getElem?_cons_zero];rfl) [] (by kernel_rfl) (fun dd vv wn hJ hdd hp K hK=>?_) ?_
         ·have HJ:=hid hJ;clear hJ hp;obtain ⟨hJ,hA⟩:=HJ.out;rw [hdd] at hJ;obtain ⟨hcl,hcg⟩:=hJ.cell0;refine Stp.mk ?_;simp only [puts,List.foldl_cons,List.foldl_nil,Act.put,List.setIfInBounds_toArray,List.set_cons_zero,List.set_cons_succ];go_simp;refine hK.out _ (upd vv 93 mo.vn) _ (by simp [puts,upd,Act.put,hvn]) ⟨hJ.load0,hA⟩
         refine ValSteps.consH (by simp only [List.getElem?_toArray,List.getElem?_cons_succ,List.getElem?_cons_zero];rfl) [] (by kernel_rfl) (fun dd vv wn hJ hdd hp K hK=>?_) ?_
         ·have HJ:=hid hJ;clear hJ hp;obtain ⟨hJ,hA⟩:=HJ.out;rw [hdd] at hJ;refine Stp.mk ?_;simp only [puts,List.foldl_cons,List.foldl_nil,Act.put,List.setIfInBounds_toArray,List.set_cons_zero,List.set_cons_succ];go_simp;refine hK.out _ (upd vv 94 (.slice (some ⟨wn.heap.size,0,none⟩) 1 1)) _ (by simp [puts,upd,Act.put]) ⟨hJ.bld0,hA⟩
         refine ValSteps.consH (by simp only [List.getElem?_toArray,List.getElem?_cons_succ,List.getElem?_cons_zero];rfl) [6,7] (by kernel_rfl) (fun dd vv wn hJ hdd hp K hK=>?_) ?_
         ·have HJ:=hid hJ;clear hJ;simp only [List.forall_mem_cons,List.not_mem_nil,false_imp_iff,implies_true,and_true] at hp;obtain ⟨hJ,hA⟩:=HJ.out;rw [hp.1,hp.2,hdd] at hJ;obtain ⟨el,hso,gk,eb,hyo⟩:=hJ.pre0;rw [eb] at hyo;refine Stp.mk ?_;simp only [puts,List.foldl_cons,List.foldl_nil,Act.put,List.setIfInBounds_toArray,List.set_cons_zero,List.set_cons_succ];rw [eb,el];show if Region.wanted _ _=true then Oper.wp _ _ _ _ _ _ else _
          refine dh (a:=⟨_,_⟩) (xs:=(mo.ps.map some)) (ys:=[none]) (by rfl) (by rfl) Au (by rfl) (by rfl) hso (hyo.sl cJ) (by simp [maxLen];omega) (by simp;omega) (Nat.zero_le _) ?_;intro v2 w6 ho2 hg2 hat2;refine hK.out _ (upd vv 95 v2) _ (by simp [puts,upd,Act.put,eb,el]) ⟨?_,hA⟩;show WrJ w3 g mo f (dd 6) (dd 7) true (dd 12) (dd 13) (dd 14) (dd 18) (dd 19) (dd 20) (dd 23) (dd 26) (dd 29) (vv 93) (vv 94) v2 (vv 99) (vv 100) (vv 101) (vv 105) (vv 106) (vv 107) w6;rw [hp.1,hp.2];exact hJ.app0 ho2 hg2 hat2
         refine ValSteps.consH (by simp only [List.getElem?_toArray,List.getElem?_cons_succ,List.getElem?_cons_zero];rfl) [] (by kernel_rfl) (fun dd vv wn hJ hdd hp K hK=>?_) ?_
         ·have HJ:=hid hJ;clear hJ hp;obtain ⟨hJ,hA⟩:=HJ.out;rw [hdd] at hJ;obtain ⟨hcl,hcg⟩:=hJ.cell1;refine Stp.mk ?_;simp only [puts,List.foldl_cons,List.foldl_nil,Act.put,List.setIfInBounds_toArray,List.set_cons_zero,List.set_cons_succ];go_simp;refine hK.out _ (upd vv 99 mo.vs) _ (by simp [puts,upd,Act.put]) ⟨hJ.load1,hA⟩
         refine ValSteps.consH (by simp only [List.getElem?_toArray,List.getElem?_cons_succ,List.getElem?_cons_zero];rfl) [] (by kernel_rfl) (fun dd vv wn hJ hdd hp K hK=>?_) ?_
         ·have HJ:=hid hJ;clear hJ hp;obtain ⟨hJ,hA⟩:=HJ.out;rw [hdd] at hJ;refine Stp.mk ?_;simp only [puts,List.foldl_cons,List.foldl_nil,Act.put,List.setIfInBounds_toArray,List.set_cons_zero,List.set_cons_succ];go_simp;refine hK.out _ (upd vv 100 (.slice (some ⟨wn.heap.size,0,none⟩) 1 1)) _ (by simp [puts,upd,Act.put]) ⟨hJ.bld1,hA⟩
         refine ValSteps.consH (by simp only [List.getElem?_toArray,List.getElem?_cons_succ,List.getElem?_cons_zero];rfl) [12,13] (by kernel_rfl) (fun dd vv wn hJ hdd hp K hK=>?_) ?_
         ·have HJ:=hid hJ;clear hJ;simp only [List.forall_mem_cons,List.not_mem_nil,false_imp_iff,implies_true,and_true] at hp;obtain ⟨hJ,hA⟩:=HJ.out;rw [hp.1,hp.2,hdd] at hJ;obtain ⟨el,hso,gk,eb,hyo⟩:=hJ.pre1;rw [eb] at hyo;refine Stp.mk ?_;simp only [puts,List.foldl_cons,List.foldl_nil,Act.put,List.setIfInBounds_toArray,List.set_cons_zero,List.set_cons_succ];rw [eb,el];show if Region.wanted _ _=true then Oper.wp _ _ _ _ _ _ else _
          refine dh (a:=⟨_,_⟩) (xs:=mo.qs) (ys:=[none]) (by rfl) (by rfl) Au (by rfl) (by rfl) hso (hyo.sl cJ) (by simp [maxLen];omega) (by simp;omega) (Nat.zero_le _) ?_;intro v2 w6 ho2 hg2 hat2;refine hK.out _ (upd vv 101 v2) _ (by simp [puts,upd,Act.put,eb,el]) ⟨?_,hA⟩;show WrJ w3 g mo f (dd 6) (dd 7) (dd 8) (dd 12) (dd 13) true (dd 18) (dd 19) (dd 20) (dd 23) (dd 26) (dd 29) (vv 93) (vv 94) (vv 95) (vv 99) (vv 100) v2 (vv 105) (vv 106) (vv 107) w6;rw [hp.1,hp.2];exact hJ.app1 ho2 hg2 hat2
         refine ValSteps.consH (by simp only [List.getElem?_toArray,List.getElem?_cons_succ,List.getElem?_cons_zero];rfl) [] (by kernel_rfl) (fun dd vv wn hJ hdd hp K hK=>?_) ?_
         ·have HJ:=hid hJ;clear hJ hp;obtain ⟨hJ,hA⟩:=HJ.out;rw [hdd] at hJ;obtain ⟨hcl,hcg⟩:=hJ.cell2;refine Stp.mk ?_;simp only [puts,List.foldl_cons,List.foldl_nil,Act.put,List.setIfInBounds_toArray,List.set_cons_zero,List.set_cons_succ];go_simp;refine hK.out _ (upd vv 105 mo.vw) _ (by simp [puts,upd,Act.put]) ⟨hJ.load2,hA⟩
         refine ValSteps.consH (by simp only [List.getElem?_toArray,List.getElem?_cons_succ,List.getElem?_cons_zero];rfl) [] (by kernel_rfl) (fun dd vv wn hJ hdd hp K hK=>?_) ?_
         ·have HJ:=hid hJ;clear hJ hp;obtain ⟨hJ,hA⟩:=HJ.out;rw [hdd] at hJ;refine Stp.mk ?_;simp only [puts,List.foldl_cons,List.foldl_nil,Act.put,List.setIfInBounds_toArray,List.set_cons_zero,List.set_cons_succ];go_simp;refine hK.out _ (upd vv 106 (.slice (some ⟨wn.heap.size,0,none⟩) 1 1)) _ (by simp [puts,upd,Act.put]) ⟨hJ.bld2,hA⟩
         refine ValSteps.consH (by simp only [List.getElem?_toArray,List.getElem?_cons_succ,List.getElem?_cons_zero];rfl) [18,19] (by kernel_rfl) (fun dd vv wn hJ hdd hp K hK=>?_) ?_
         ·have HJ:=hid hJ;clear hJ;simp only [List.forall_mem_cons,List.not_mem_nil,false_imp_iff,implies_true,and_true] at hp;obtain ⟨hJ,hA⟩:=HJ.out;rw [hp.1,hp.2,hdd] at hJ;obtain ⟨el,hso,gk,eb,hyo⟩:=hJ.pre2;rw [eb] at hyo;refine Stp.mk ?_;simp only [puts,List.foldl_cons,List.foldl_nil,Act.put,List.setIfInBounds_toArray,List.set_cons_zero,List.set_cons_succ];rw [eb,el];show if Region.wanted _ _=true then Oper.wp _ _ _ _ _ _ else _
          refine dh (a:=⟨_,_⟩) (xs:=f.waits) (ys:=[false]) (by rfl) (by rfl) elB (by rfl) (by rfl) hso (hyo.sl gC) (by simp [maxLen];omega) (by simp;omega) (Nat.zero_le _) ?_;intro v2 w6 ho2 hg2 hat2;refine hK.out _ (upd vv 107 v2) _ (by simp [puts,upd,Act.put,eb,el]) ⟨?_,hA⟩;show WrJ w3 g mo f (dd 6) (dd 7) (dd 8) (dd 12) (dd 13) (dd 14) (dd 18) (dd 19) true (dd 23) (dd 26) (dd 29) (vv 93) (vv 94) (vv 95) (vv 99) (vv 100) (vv 101) (vv 105) (vv 106) v2 w6;rw [hp.1,hp.2];exact hJ.app2 ho2 hg2 hat2
         refine ValSteps.consH (by simp only [List.getElem?_toArray,List.getElem?_cons_succ,List.getElem?_cons_zero];rfl) [] (by kernel_rfl) (fun dd vv wn hJ hdd hp K hK=>?_) ?_
         ·have HJ:=hid hJ;clear hJ hp;refine Stp.mk ?_;simp only [puts,List.foldl_cons,List.foldl_nil,Act.put,List.setIfInBounds_toArray,List.set_cons_zero,List.set_cons_succ];go_simp;refine hK.out _ (upd vv 108 (ai g)) _ (by simp [puts,upd,Act.put,ai]) ⟨HJ.out.1,HJ.out.2.nc0⟩
         refine ValSteps.consH (by simp only [List.getElem?_toArray,List.getElem?_cons_succ,List.getElem?_cons_zero];rfl) [21] (by kernel_rfl) (fun dd vv wn hJ hdd hp K hK=>?_) ?_
         ·have HJ:=hid hJ;clear hJ;simp only [List.forall_mem_cons,List.not_mem_nil,false_imp_iff,implies_true,and_true] at hp;have e1:=HJ.out.2.v108 hp;unfold ai at e1;refine Stp.mk ?_;simp only [puts,List.foldl_cons,List.foldl_nil,Act.put,List.setIfInBounds_toArray,List.set_cons_zero,List.set_cons_succ];rw [e1];go_simp;refine hK.out _ (upd vv 109 (.pointer (some ⟨g,0,none⟩))) _ (by simp [puts,upd,Act.put,e1]) ⟨HJ.out.1,HJ.out.2.fa0⟩
         refine ValSteps.consH (by simp only [List.getElem?_toArray,List.getElem?_cons_succ,List.getElem?_cons_zero];rfl) [22,8] (by kernel_rfl) (fun dd vv wn hJ hdd hp K hK=>?_) ?_
         ·have HJ:=hid hJ;clear hJ;simp only [List.forall_mem_cons,List.not_mem_nil,false_imp_iff,implies_true,and_true] at hp;obtain ⟨hJ,hA⟩:=HJ.out;rw [hp.2,hdd] at hJ;have e1:=hA.v109 hp.1;obtain ⟨⟨hcl,hfz,hcg,A5,n5,c5,e5⟩,hJ2⟩:=hJ.sto0;refine Stp.mk ?_;simp only [puts,List.foldl_cons,List.foldl_nil,Act.put,List.setIfInBounds_toArray,List.set_cons_zero,List.set_cons_succ];rw [e1,e5];go_simp;refine hK.out _ vv _ ?_ ?_
          ·simp [puts,Act.put,e1,e5]
          refine ⟨?_,hA⟩;show WrJ w3 g mo f (dd 6) (dd 7) (dd 8) (dd 12) (dd 13) (dd 14) (dd 18) (dd 19) (dd 20) true (dd 26) (dd 29) (vv 93) (vv 94) (vv 95) (vv 99) (vv 100) (vv 101) (vv 105) (vv 106) (vv 107) _;rw [hp.2,← e5];exact hJ2
         refine ValSteps.consH (by simp only [List.getElem?_toArray,List.getElem?_cons_succ,List.getElem?_cons_zero];rfl) [] (by kernel_rfl) (fun dd vv wn hJ hdd hp K hK=>?_) ?_
         ·have HJ:=hid hJ;clear hJ hp;refine Stp.mk ?_;simp only [puts,List.foldl_cons,List.foldl_nil,Act.put,List.setIfInBounds_toArray,List.set_cons_zero,List.set_cons_succ];go_simp;refine hK.out _ (upd vv 110 (ai g)) _ (by simp [puts,upd,Act.put,ai]) ⟨HJ.out.1,HJ.out.2.nc1⟩
         refine ValSteps.consH (by simp only [List.getElem?_toArray,List.getElem?_cons_succ,List.getElem?_cons_zero];rfl) [24] (by kernel_rfl) (fun dd vv wn hJ hdd hp K hK=>?_) ?_
         ·have HJ:=hid hJ;clear hJ;simp only [List.forall_mem_cons,List.not_mem_nil,false_imp_iff,implies_true,and_true] at hp;have e1:=HJ.out.2.v110 hp;unfold ai at e1;refine Stp.mk ?_;simp only [puts,List.foldl_cons,List.foldl_nil,Act.put,List.setIfInBounds_toArray,List.set_cons_zero,List.set_cons_succ];rw [e1];go_simp;refine hK.out _ (upd vv 111 (.pointer (some ⟨g,1,none⟩))) _ (by simp [puts,upd,Act.put,e1]) ⟨HJ.out.1,HJ.out.2.fa1⟩
         refine ValSteps.consH (by simp only [List.getElem?_toArray,List.getElem?_cons_succ,List.getElem?_cons_zero];rfl) [25,14] (by kernel_rfl) (fun dd vv wn hJ hdd hp K hK=>?_) ?_
         ·have HJ:=hid hJ;clear hJ;simp only [List.forall_mem_cons,List.not_mem_nil,false_imp_iff,implies_true,and_true] at hp;obtain ⟨hJ,hA⟩:=HJ.out;rw [hp.2,hdd] at hJ;have e1:=hA.v111 hp.1;obtain ⟨⟨hcl,hfz,hcg,A5,n5,c5,e5⟩,hJ2⟩:=hJ.sto1;refine Stp.mk ?_;simp only [puts,List.foldl_cons,List.foldl_nil,Act.put,List.setIfInBounds_toArray,List.set_cons_zero,List.set_cons_succ];rw [e1,e5];go_simp;refine hK.out _ vv _ ?_ ?_
          ·simp [puts,Act.put,e1,e5]
          refine ⟨?_,hA⟩;show WrJ w3 g mo f (dd 6) (dd 7) (dd 8) (dd 12) (dd 13) (dd 14) (dd 18) (dd 19) (dd 20) (dd 23) true (dd 29) (vv 93) (vv 94) (vv 95) (vv 99) (vv 100) (vv 101) (vv 105) (vv 106) (vv 107) _;rw [hp.2,← e5];exact hJ2
         refine ValSteps.consH (by simp only [List.getElem?_toArray,List.getElem?_cons_succ,List.getElem?_cons_zero];rfl) [] (by kernel_rfl) (fun dd vv wn hJ hdd hp K hK=>?_) ?_
         ·have HJ:=hid hJ;clear hJ hp;refine Stp.mk ?_;simp only [puts,List.foldl_cons,List.foldl_nil,Act.put,List.setIfInBounds_toArray,List.set_cons_zero,List.set_cons_succ];go_simp;refine hK.out _ (upd vv 112 (ai g)) _ (by simp [puts,upd,Act.put,ai]) ⟨HJ.out.1,HJ.out.2.nc2⟩
         refine ValSteps.consH (by simp only [List.getElem?_toArray,List.getElem?_cons_succ,List.getElem?_cons_zero];rfl) [27] (by kernel_rfl) (fun dd vv wn hJ hdd hp K hK=>?_) ?_
         ·have HJ:=hid hJ;clear hJ;simp only [List.forall_mem_cons,List.not_mem_nil,false_imp_iff,implies_true,and_true] at hp;have e1:=HJ.out.2.v112 hp;unfold ai at e1;refine Stp.mk ?_;simp only [puts,List.foldl_cons,List.foldl_nil,Act.put,List.setIfInBounds_toArray,List.set_cons_zero,List.set_cons_succ];rw [e1];go_simp;refine hK.out _ (upd vv 113 (.pointer (some ⟨g,2,none⟩))) _ (by simp [puts,upd,Act.put,e1]) ⟨HJ.out.1,HJ.out.2.fa2⟩
         refine ValSteps.consH (by simp only [List.getElem?_toArray,List.getElem?_cons_succ,List.getElem?_cons_zero];rfl) [28,20] (by kernel_rfl) (fun dd vv wn hJ hdd hp K hK=>?_) ?_
         ·have HJ:=hid hJ;clear hJ;simp only [List.forall_mem_cons,List.not_mem_nil,false_imp_iff,implies_true,and_true] at hp;obtain ⟨hJ,hA⟩:=HJ.out;rw [hp.2,hdd] at hJ;have e1:=hA.v113 hp.1;obtain ⟨⟨hcl,hfz,hcg,A5,n5,c5,e5⟩,hJ2⟩:=hJ.sto2;refine Stp.mk ?_;simp only [puts,List.foldl_cons,List.foldl_nil,Act.put,List.setIfInBounds_toArray,List.set_cons_zero,List.set_cons_succ];rw [e1,e5];go_simp;refine hK.out _ vv _ ?_ ?_
          ·simp [puts,Act.put,e1,e5]
          refine ⟨?_,hA⟩;show WrJ w3 g mo f (dd 6) (dd 7) (dd 8) (dd 12) (dd 13) (dd 14) (dd 18) (dd 19) (dd 20) (dd 23) (dd 26) true (vv 93) (vv 94) (vv 95) (vv 99) (vv 100) (vv 101) (vv 105) (vv 106) (vv 107) _;rw [hp.2,← e5];exact hJ2
         exact ValSteps.nil
        case fin=>
         intro dd vv wn hJ hall;simp only [List.forall_mem_cons,List.not_mem_nil,false_imp_iff,implies_true,and_true] at hall;obtain ⟨a1,a2,a3,a4,a5,a6,a7,a8,a9,-,-,a10,-,-,a11,-,-,a12⟩:=hall;have hJ:=hJ.1;rw [a1,a2,a3,a4,a5,a6,a7,a8,a9,a10,a11,a12] at hJ;obtain ⟨hR,hCh,hOw⟩:=hJ.fin;have HR2:=hid hR;have HCh:=hid hCh;have HOw:=hid hOw;clear hR hCh hOw hJ;simp only [puts,List.foldl_cons,List.foldl_nil,Act.put,List.setIfInBounds_toArray,List.set_cons_zero,List.set_cons_succ];go_wp2_with fail;go_meet
         case rel=>exact ⟨_,_,_,_,_,_,HR2.out,HCh.out,HOw.out,.inl ⟨HII.out,rfl,rfl,rfl⟩⟩
       ·rw [decide_eq_false hii];have hlt:i<f.now.length:=by have:=HNG.out;omega
        clear hii;have HLT:=hid hlt;clear hlt;go_wp2_with fail;go_meet
        case rel=>exact ⟨_,_,_,_,_,_,HF3.out.raw,Ch.refl _ _,fun k hk=>.inl hk,.inr ⟨HLT.out,rfl,rfl,rfl⟩⟩
      case rest=>
      obtain ⟨vn,vs,vw,xs,qs,ws,hR,hCh,hOw,hal⟩:=hcut;obtain ⟨k,rfl⟩:∃ k:Nat,i=k:=⟨i.toNat,by omega⟩;have hpl:mo.ps.length=f.now.length:=by rw [HF3.out.now];simp
      have hwl:=hfok.lw;have hxk:k<xs.length∧k<ws.length:=by
       rcases hal with ⟨h1,rfl,-,rfl⟩ | ⟨h1,rfl,-,rfl⟩
       ·simp only [List.length_append,List.length_map,List.length_cons,List.length_nil];omega
       ·simp only [List.length_map];omega
      obtain ⟨p0,q0,rfl,hl0,hc0,hz0⟩:=fI hR.on cJ hxk.1;obtain ⟨p2,q2,rfl,hl2,hc2,hz2⟩:=fI hR.ow gC hxk.2;have y0:=hc0 _ rfl;have y2:=hc2 _ rfl;obtain ⟨r0,r1,r2,-,hgl3,-⟩:=bd (m:=⟨_,vs,_,[],[]⟩) hR.blk;have HR:=hid hR;have HCH:=hid hCh;have HOW:=hid hOw;have HAL:=hid hal;have HXK:=hid hxk;have hk1:(k:Int)<(xs.length:Int):=by omega
      have hk2:(k:Int)<(ws.length:Int):=by omega
      have hk0:(0:Int)≤(k:Int):=by omega
      have hpp:p0≠p2:=fun e=>hR.d13 p0 rfl (by rw [e];rfl)
      have hpg:p0≠g∧p2≠g:=⟨fun e=>hR.g1 (by rw [e];rfl),fun e=>hR.g3 (by rw [e];rfl)⟩;clear hR hCh hOw hal hc0 hc2 b0 c0 hrun;generalize mq xs[k]=yo at *;generalize ws[k]=yb at *;obtain ⟨hpg1,hpg2⟩:=hpg;go_wp2_with fail;go_region;obtain ⟨w7,hw7⟩:∃ w7,w7=(((wc.setCell ⟨p0,k,none⟩ (.pointer (some ⟨wc.heap.size,0,none⟩))).setCell ⟨p2,k,none⟩ (.bool true)).alloc (fk s)).drew:=⟨_,rfl⟩;obtain ⟨hP,hcl,hC7⟩:=HR.out.put HXK.out.1 HXK.out.2 s hw7;have HW7:=hid hw7;have HP:=hid hP;have HCL:=hid hcl;have HC7:=hid hC7
      have HMP7:=hid ((HMP.out.ch HCH.out (fun e=>hmog _ e rfl)).ch HC7.out (fun e=>by
       have h1:=HOW.out L.gm;have h2:=HA2.out.dk.map.lt;have h3:=HC3.out.size;rcases e with e | e
       ·rcases h1 (.inr (.inl (by rw [e];rfl))) with h4 | h4
        ·exact hmog _ h4 rfl
        ·omega
       ·rcases h1 (.inr (.inr (.inr (by rw [e];rfl)))) with h4 | h4
        ·exact hmog _ h4 rfl
        ·omega))
      clear hw7 hP hcl hC7 r0 r1 r2 y0 y2 hz0 hz2 hl0 hl2 hgl3;go_wp2_with fail;go_ret;have hE:wrE d n k s=0:=by rw [HWE.out,if_neg (by have:=HNG.out;omega),if_neg HNF.out,if_neg HNR.out]
      obtain ⟨L',h1,h2,h3⟩:∃ L',L'.gd=L.gd∧DkIs w7 L' (wrS d n k s)∧∀ j,L'.F j→L.F j∨w.heap.size≤j:=by
       have hsz1:=HC3.out.size;have hsz2:=HCH.out.size;have hsz3:=HC2.out.size;have hlow:∀ j,L.C j→j<wa.heap.size:=fun j hj=>HA2.out.dk.lt (.inr (.inr (.inl hj)))
       have hnC:∀ j,mo.own g j→¬ L.C j:=fun j hj hc=>by
        rcases HA2.out.at_ with ⟨a1,a2⟩ | ⟨-,a2⟩
        ·exact (HA2.out.dk.fd _ a1 j (by rw [a2];exact hj)).2.2 hc
        ·exact a2 j hj (.inr (.inr (.inl hc)))
       obtain ⟨E',hE'⟩:∃ E':Nat→By,E'=fun j=>if j=wc.heap.size then s else L.E j:=⟨_,rfl⟩
       have hE1:∀ j,L.C j→E' j=L.E j:=fun j hj=>by rw [hE'];exact if_neg (by have:=hlow j hj;omega)
       have hE2:E' wc.heap.size=s:=by rw [hE'];exact if_pos rfl
       have hpc:∀ q ∈ mo.ps,E' q=L.E q:=fun q hq=>hE1 q (HA2.out.fi.pc q hq)
       have hqc:∀ q,some q ∈ mo.qs→E' q=L.E q:=fun q hq=>hE1 q (HA2.out.fi.qc q hq)
       have hff:((dT d n true).file n).getD .empty=f:=HA2.out.fe;have hff2:(d.file n).getD .empty=f:=by rw [bT] at hff;exact hff
       have hfil:∃ m',FilIs w7 (fun j=>L.C j∨j=wc.heap.size) E' g m' (f.put k s)∧(∀ j,m'.own g j→j=g∨(Value.slice (some ⟨p0,0,none⟩) xs.length q0).ownBlock=some j∨vs.ownBlock=some j∨(Value.slice (some ⟨p2,0,none⟩) ws.length q2).ownBlock=some j):=by
        have hP:=HP.out;rcases HAL.out with ⟨a1,rfl,rfl,rfl⟩ | ⟨a1,rfl,rfl,rfl⟩
        ·obtain rfl:k=f.now.length:=by omega
         have hx:(mo.ps.map some ++ [none]).set f.now.length (some wc.heap.size)=(mo.ps ++ [wc.heap.size]).map some:=by rw [List.set_append_right _ _ (by rw [List.length_map];omega),List.length_map,hpl,Nat.sub_self];simp
         have hI:=hP.is (E:=E') (C:=fun j=>L.C j∨j=wc.heap.size) hx (fun q hq=>by
          rcases List.mem_append.1 hq with hq | hq
          ·exact .inl (HA2.out.fi.pc q hq)
          ·exact .inr (List.mem_singleton.1 hq)) (fun q hq=>by
          rcases List.mem_append.1 hq with hq | hq
          ·exact .inl (HA2.out.fi.qc q hq)
          ·cases List.mem_singleton.1 hq)
         rw [yn HA2.out.fi.now HA2.out.fi.safe hwl hE2 hpc hqc] at hI;exact ⟨_,hI,fun j hj=>hj⟩
        ·have hx:(mo.ps.map some).set k (some wc.heap.size)=(mo.ps.set k wc.heap.size).map some:=List.map_set.symm
         have hI:=hP.is (E:=E') (C:=fun j=>L.C j∨j=wc.heap.size) hx (fun q hq=>by
          rcases List.mem_or_eq_of_mem_set hq with hq | hq
          ·exact .inl (HA2.out.fi.pc q hq)
          ·exact .inr hq) (fun q hq=>.inl (HA2.out.fi.qc q hq))
         rw [ym HA2.out.fi.now HA2.out.fi.safe (by omega) hE2 hpc hqc] at hI;exact ⟨_,hI,fun j hj=>hj⟩
       obtain ⟨m',hI,hown⟩:=hfil
       have hS:=HA2.out.dk.setFile (n:=n) (g:=g) (mo:=mo) (m':=m') (f':=f.put k s) (C':=fun j=>L.C j∨j=wc.heap.size) (E':=E') (d':=wrS d n k s) HA2.out.at_
        (((HC3.out.mono fun j _ e=>.inr e).trans (HCH.out.mono fun j _ e=>.inl e)).then HC7.out fun j e=>by
          have h1:=HOW.out j;rcases e with rfl | rfl
          ·rcases h1 (.inr (.inl rfl)) with h4 | h4
           ·exact .inl (.inl h4)
           ·exact .inr (by omega)
          ·rcases h1 (.inr (.inr (.inr rfl))) with h4 | h4
           ·exact .inl (.inl h4)
           ·exact .inr (by omega)) HMP7.out (fun j h=>.inl h) hE1 (fun j hj=>hj.imp id fun e=>by omega) (fun j hj hn=>by
          obtain rfl:=hj.resolve_left hn;rw [hE2];exact HCL.out) hI (fun j hj=>(HOW.out j (hown j hj)).imp id fun e=>by omega) (fun j hj hc=>by
          have hlt:=HR.out.on.lt;have hj1:j<wc.heap.size:=by
           rcases hown j hj with rfl | h | h | h
           ·exact ab HR.out.blk
           ·exact (HR.out.on.lt j h).2
           ·exact (HR.out.os.lt j h).2
           ·exact (HR.out.ow.lt j h).2
          rcases hc with hc | hc
          ·rcases HOW.out j (hown j hj) with h | h
           ·exact hnC j h hc
           ·have:=hlow j hc;omega
          ·omega)
        (by
          unfold wrS;rw [if_pos hE,hff2,Int.toNat_natCast]
          have h5:=fb (n:=n) (oZ HH.out.ok n true) (vL (f:=f) hfok (i:=k) hs fun e=>by
           have h6:=HNR.out;have h7:=uA (d:=d) (n:=n);rw [hff2] at h7;have h8:¬ d.room≤d.total:=fun h=>h6 ⟨by omega,h⟩
           omega) (fun hno=>by
           rw [dH];rw [bT] at hno;rcases HVV.out with ⟨-,f2,g2,hf2,-⟩ | ⟨h9,-⟩
           ·rw [hno] at hf2;cases hf2
           ·have:=HNF.out;rcases Nat.lt_or_ge d.files.length 8 with h | h
            ·exact h
            ·exact absurd ⟨h9,h⟩ this)
          rw [dH] at h5;exact h5)
        (by unfold wrS;rw [if_pos hE,hff2,Int.toNat_natCast,dH]) (fun gm ops=>by unfold wrS;rw [if_pos hE];rfl)
       refine ⟨⟨L.gd,L.gm,aX L.K n g,fun j=>L.C j∨j=wc.heap.size,E',fun k=>if k=g then m' else L.M k⟩,rfl,hS.1,fun j hj=>?_⟩;rcases hS.2 j hj with h | h | h
       ·exact .inl h
       ·exact (HA2.out.nw j h).imp id fun e=>by have:=HC.out.size;omega
       ·exact .inr (by omega)
      refine ⟨by rw [hE];rfl,L',h1,?_,h3,?_⟩
      ·have:=h2;rw [HW7.out] at this;exact this
      ·have h4:Ch L.F w w7:=HC2.out.then (((HC3.out.mono (S':=fun j=>mo.own g j∨j=L.gm) fun j _ e=>.inr e).trans (HCH.out.mono fun j _ e=>.inl e)).then HC7.out fun j e=>by
         have h1:=HOW.out j;have:=HC3.out.size;rcases e with rfl | rfl
         ·rcases h1 (.inr (.inl rfl)) with h4 | h4
          ·exact .inl (.inl h4)
          ·exact .inr (by omega)
         ·rcases h1 (.inr (.inr (.inr rfl))) with h4 | h4
          ·exact .inl (.inl h4)
          ·exact .inr (by omega)) fun j hj=>by
        rcases hj with h | h
        ·exact (HA2.out.nw j h).imp id fun e=>by have:=HC.out.size;omega
        ·exact .inl (.inr (.inl h))
       rw [HW7.out] at h4;exact h4
 ·have hrf:(decide (0≤i) && decide (s.length=256))=false:=by
   rw [not_and] at hr;by_cases h0:0≤i
   ·simp [hr h0]
   ·simp [h0]
  have HX:=hid (show dQ d n false=1 by unfold dQ iw;simp);have HE:=hid (show wrE d n i s=1∧wrS d n i s=dT d n false by
   have h1:wrE d n i s=1:=by unfold wrE;rw [hrf,HX.out,if_pos ⟨by decide,.inl (by decide)⟩]
   refine ⟨h1,?_⟩;unfold wrS;rw [if_neg (by rw [h1];decide),hrf])
  by_cases h0:0≤i
  ·have hd1:decide (i ≥ 0)=true:=decide_eq_true h0;have hs2:((s.length:Int) == 256)=false:=by
    have:s.length≠256:=fun h=>hr ⟨h0,h⟩
    simp;omega
   clear hr hrf;go_wp2_with fail;refine (dG n hn false w HH.out).mono ?_;rintro e w1 ⟨v,rfl,hv,hd,hc⟩;rw [HX.out];have HD:=hid hd;have HC:=hid hc;clear hd hc hv;go_wp2_with fail;go_ret;exact ⟨by rw [HE.out.1];rfl,L,rfl,by rw [HE.out.2];exact HD.out,fun k hk=>.inl hk,HC.out.mono fun k _ e=>.inl e⟩
  ·have hd1:decide (i ≥ 0)=false:=decide_eq_false h0;clear hr hrf;go_wp2_with fail;refine (dG n hn false w HH.out).mono ?_;rintro e w1 ⟨v,rfl,hv,hd,hc⟩;rw [HX.out];have HD:=hid hd;have HC:=hid hc;clear hd hc hv;go_wp2_with fail;go_ret;exact ⟨by rw [HE.out.1];rfl,L,rfl,by rw [HE.out.2];exact HD.out,fun k hk=>.inl hk,HC.out.mono fun k _ e=>.inl e⟩
end Go.Proofs.YtdmhbgpejppbkaaGreat
