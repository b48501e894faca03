/- shelf: Free; the calls as programs' steps. A pager in a transaction answers as a shelf: plain. cahierlaw15: does at every act; the shelf's answer is the pager's: plain. disk: Room, New, Off. pager: find on an empty disk, Open. PagerShelf: the pager and the shelf side by side: plain. -/
import Derived.Test.YtdmhbgpejppbkaaGreatZGbh
import Derived.Test.YtdmhbgpejppbkaaGreatZGbg
import Derived.Test.YtdmhbgpejppbkaaGreatZGap
import Derived.Test.YtdmhbgpejppbkaaGreatZGaz
set_option maxRecDepth 100000
set_option maxHeartbeats 2000000
namespace Go.Proofs.YtdmhbgpejppbkaaGreat
open Go.Lib (hid)
open Go.RowKit Go.Maps
theorem rM {h:Hd} {B:Int→List UInt8} {n:Int} (he:(aB h B n).e≠0):(aB h B n).B=B:=by
 unfold aB at *
 split at he
 ·rename_i h1;rw [if_pos h1];rfl
 ·rename_i h1
  rw [if_neg h1]
  split at he
  ·rename_i h2;rw [if_pos h2];rfl
  ·rename_i h2
   rw [if_neg h2]
   split at he
   ·exact absurd rfl he
   ·rename_i h3
    rw [if_neg h3]
    split at he
    ·rename_i h4;rw [if_pos h4];rfl
    ·split at he
     ·exact absurd rfl he
     ·exact absurd rfl he
theorem qn {h:Hd} {B:Int→List UInt8} {n:Int} (hk:h.Ok) (hl:∀ n,(B n).length=232) (he:(aB h B n).e=0):(aB h B n).h.Ok∧(∀ m,((aB h B n).B m).length=232):=by
 have hp2:=hk.p2;have hs0:=hk.s0;unfold aB at *
 split at he
 ·cases he
 ·rename_i h1
  rw [if_neg h1]
  split at he
  ·cases he
  ·rename_i h2
   rw [if_neg h2]
   split at he
   ·rename_i h3
    rw [if_pos h3];exact ⟨⟨hk.p1,hk.p2,by simp only;omega,by simp only;omega,by simp only;omega,by simp only;omega⟩,ci hl (bY _)⟩
   ·rename_i h3
    rw [if_neg h3]
    split at he
    ·cases he
    ·rename_i h4
     rw [if_neg h4]
     split at he
     ·rename_i h5
      rw [if_pos h5];exact ⟨⟨hk.p1,hk.p2,hk.t0,hk.t1,by simp only;omega,by simp only;omega⟩,ci hl (bY _)⟩
     ·rename_i h5
      rw [if_neg h5];exact ⟨⟨hk.p1,hk.p2,by simp only;omega,by simp only;omega,by simp only;omega,by simp only;omega⟩,ci hl (bY _)⟩
theorem nQ (gs gm:Nat) (s:Sf) (n:Int) (w:World) (h:ShIs w gs gm s):
  Calls Tryz.prog 33 #[.pointer (some ⟨gs,0,none⟩),.int .i64 n] w fun e w'=>e=.returned (.int .i64 (cD s n))∧ShIs w' gs gm (eI s n)∧Ch (fun k=>k=gs∨k=gm) w w':=by
 have HK:=hid h.ok;go_enter Tryz.func33,Tryz.ntmps33;go_wp2_with fail;refine (br n gs gm s w h).mono ?_;rintro e w1 ⟨rfl,hs,hc⟩;have HS:=hid hs;have HC:=hid (hc.mono (S':=fun k=>k=gs∨k=gm) (fun _ _ e=>.inl e));have HBK:=hid (show BookIs w1 gm s.B from cU s ▸ hs.book)
 have HBL:=hid (show w1.heap[gs]?=some (jU { s with left:=(aW s).left } gm) from by
  have:=hs.blk;rw [bJ s] at this;exact this)
 clear h hs hc;obtain ⟨be,hbe⟩:∃ be,bu s n=be:=⟨_,rfl⟩;rw [hbe];have HBE:=hid hbe;clear hbe;by_cases h0:be=0
 ·subst h0;have HE:=hid (show cD s n=(aB s.h s.B n).e by unfold cD;rw [HBE.out];rfl);obtain ⟨a1,a2,a3,a4,a5,a6,a7,a8⟩:=aA HBL.out;simp only at a1 a2 a3 a4 a5 a6 a7;have hgm:=HBK.out.lt;obtain ⟨⟨⟨xm,xp,xt,xs,xr,xc⟩,te,tB⟩,hTR⟩:∃ T,aB s.h s.B n=T:=⟨_,rfl⟩;have HTR:=hid hTR;clear hTR;go_upto_region 4 with fail
  go_region_held3 (fun wn=>wn.cell? ⟨gs,1,none⟩=some (.int .i64 s.h.mode)∧wn.cell? ⟨gs,2,none⟩=some (.int .i64 s.h.pages)∧wn.cell? ⟨gs,3,none⟩=some (.int .i64 s.h.trunk)∧
    wn.cell? ⟨gs,4,none⟩=some (.int .i64 s.h.spare)∧wn.cell? ⟨gs,5,none⟩=some (.int .i64 s.h.root)∧wn.cell? ⟨gs,6,none⟩=some (.int .u64 s.h.change)∧wn.cell? ⟨gs,7,none⟩=some (.map (some gm)))
   ((first | go_keep | exact HXS.out))
   (first
   | (go_at_call 90
      refine (lm s.h n gm s.B _ (HBK.out.block (w':=w1.drew) rfl) HK.out.l HK.out.h).mono ?_;rw [HTR.out];simp only [Hd.val,Hd.cells];rintro e w4 ⟨rfl,hbk,hch⟩;have HX4:=hid (hch.keep (show w1.drew.heap[gs]?=_ from HBL.out) (fun e=>HS.out.ne e.symm));obtain ⟨k1,k2,k3,k4,k5,k6,k7,-⟩:=aA HX4.out;simp only at k1 k2 k3 k4 k5 k6 k7;have hz4:=af HX4.out;have HB4:=hid hbk;have HC4:=hid (HC.out.drew.trans (hch.mono (S':=fun k=>k=gs∨k=gm) (fun _ _ e=>.inr e)));clear hbk hch)
   | (go_at_call 90
      refine (lm s.h n gm s.B _ ((HBK.out.block (w':=w1.drew) rfl).ch (Ch.alloc (Ch.refl (fun _=>False) _) _) id) HK.out.l HK.out.h).mono ?_;rw [HTR.out];simp only [Hd.val,Hd.cells];rintro e w4 ⟨rfl,hbk,hch⟩;have HX4:=hid (hch.keep (aj (show w1.drew.heap[gs]?=_ from HBL.out) _) (fun e=>HS.out.ne e.symm));obtain ⟨k1,k2,k3,k4,k5,k6,k7,-⟩:=aA HX4.out;simp only at k1 k2 k3 k4 k5 k6 k7;have hz4:=af HX4.out;have HB4:=hid hbk;have HC4:=hid ((HC.out.drew.alloc _).trans (hch.mono (S':=fun k=>k=gs∨k=gm) (fun _ _ e=>.inr e)));have HA4:=hid (show w4.heap[w1.heap.size]?=some (bn Hd.zero) from hch.keep (ah rfl) (by omega));obtain ⟨j0,j1,j2,j3,j4,j5,j6⟩:=ag HA4.out;obtain ⟨l0,l1,l2,l3,l4,l5⟩:=ao HA4.out;simp only [Hd.zero] at j0 j1 j2 j3 j4 j5;have HXS:=hid (ed ((aZ (Ch.refl (fun j=>j=w1.heap.size) w4) rfl ⟨xm,xp,xt,xs,xr,xc⟩).keep HX4.out (by omega)));clear hbk hch))
  all_goals
   first
   | (have HXZ:=hid ((aZ (Ch.refl (fun j=>j=w1.heap.size) w4) rfl ⟨xm,xp,xt,xs,xr,xc⟩).keep HX4.out (by omega))
      have HBZ:=hid (HB4.out.ch (aZ (Ch.refl (fun j=>j=w1.heap.size) w4) rfl ⟨xm,xp,xt,xs,xr,xc⟩) (by omega));have HHZ:=hid (bU HA4.out ⟨xm,xp,xt,xs,xr,xc⟩);have HCZ:=hid (HC4.out.then (aZ (Ch.refl (fun j=>j=w1.heap.size) w4) rfl ⟨xm,xp,xt,xs,xr,xc⟩) (fun i e=>.inr (by have:=HC.out.size;omega)));have hgn:gs≠w1.heap.size:=by omega
      clear HXS j0 j1 j2 j3 j4 j5 j6 l0 l1 l2 l3 l4 l5 k1 k2 k3 k4 k5 k6 k7 HX4 HB4 HC4 HA4 a1 a2 a3 a4 a5 a6 a7;generalize hwf:cB w4 w1.heap.size ⟨xm,xp,xt,xs,xr,xc⟩=wz at *;have hwf2:(((((w4.setCell ⟨w1.heap.size,0,none⟩ (.int .i64 xm)).setCell ⟨w1.heap.size,1,none⟩ (.int .i64 xp)).setCell ⟨w1.heap.size,2,none⟩ (.int .i64 xt)).setCell ⟨w1.heap.size,3,none⟩ (.int .i64 xs)).setCell ⟨w1.heap.size,4,none⟩ (.int .i64 xr)).setCell ⟨w1.heap.size,5,none⟩ (.int .u64 xc)=wz:=hwf;rw [hwf2];generalize w1.heap.size=gr at *;clear hwf hwf2)
   | (have HXZ:=hid (aj HX4.out (bn ⟨xm,xp,xt,xs,xr,xc⟩))
      have HBZ:=hid (HB4.out.ch (Ch.alloc (Ch.refl (fun _=>False) w4) (bn ⟨xm,xp,xt,xs,xr,xc⟩)) id);have HHZ:=hid (ah (w0:=w4) (g:=w4.heap.size) (o:=bn ⟨xm,xp,xt,xs,xr,xc⟩) rfl);have HCZ:=hid (HC4.out.alloc (bn ⟨xm,xp,xt,xs,xr,xc⟩));have hgn:gs≠w4.heap.size:=by omega
      clear k1 k2 k3 k4 k5 k6 k7 HX4 HB4 HC4 a1 a2 a3 a4 a5 a6 a7;generalize hwf:w4.alloc (bn ⟨xm,xp,xt,xs,xr,xc⟩)=wz at *;have hwf2:w4.alloc (.cells #[.int .i64 xm,.int .i64 xp,.int .i64 xt,.int .i64 xs,.int .i64 xr,.int .u64 xc] 38)=wz:=hwf;rw [hwf2];generalize w4.heap.size=gr at *;clear hwf hwf2)
   obtain ⟨x1,x2,x3,x4,x5,x6,x7,x8⟩:=aA HXZ.out;obtain ⟨h0,h1,h2,h3,h4,h5,h6⟩:=ag HHZ.out;have f1:=ab HXZ.out 1;have f2:=ab HXZ.out 2;have f3:=ab HXZ.out 3;have f4:=ab HXZ.out 4;have f5:=ab HXZ.out 5;have f6:=ab HXZ.out 6;simp only at x1 x2 x3 x4 x5 x6 x7 h0 h1 h2 h3 h4 h5;by_cases he:te=0
   ·subst he;have hok:=qn (n:=n) HK.out.h HK.out.l (by rw [HTR.out]);rw [HTR.out] at hok;simp only at hok;have HOK1:=hid hok.1;have HOK2:=hid hok.2;clear hok
    have HV:=hid (show cD s n=0∧eI s n={ s with h:=⟨xm,xp,xt,xs,xr,xc⟩,B:=tB,left:=(aW s).left } by
     have he:cD s n=0:=by rw [HE.out,HTR.out]
     refine ⟨he,?_⟩;unfold eI;rw [if_pos he,HTR.out]
     conv=>lhs;rw [bJ s])
    have HX8:=hid (ei HXZ.out ⟨xm,xp,xt,xs,xr,xc⟩);have HB8:=hid (HBZ.out.ch (dw (Ch.refl (fun j=>j=gs) wz) rfl ⟨xm,xp,xt,xs,xr,xc⟩) HS.out.ne);have HC8:=hid (dw (g:=gs) HCZ.out (.inl rfl) ⟨xm,xp,xt,xs,xr,xc⟩);go_upto_region 7 with fail
    generalize hwf:sO wz gs ⟨xm,xp,xt,xs,xr,xc⟩=w8 at *;have hwf2:(((((wz.setCell ⟨gs,1,none⟩ (.int .i64 xm)).setCell ⟨gs,2,none⟩ (.int .i64 xp)).setCell ⟨gs,3,none⟩ (.int .i64 xt)).setCell ⟨gs,4,none⟩ (.int .i64 xs)).setCell ⟨gs,5,none⟩ (.int .i64 xr)).setCell ⟨gs,6,none⟩ (.int .u64 xc)=w8:=hwf;rw [hwf2];clear hwf hwf2 x1 x2 x3 x4 x5 x6 x7 h0 h1 h2 h3 h4 h5 f1 f2 f3 f4 f5 f6;go_wp2_with fail;go_ret;refine ⟨by rw [HV.out.1];rfl,?_,HC8.out⟩;rw [HV.out.2];exact ⟨HX8.out,HB8.out,HS.out.ne,⟨HOK1.out,HOK2.out,(cK HK.out).1,(cK HK.out).2⟩⟩
   ·have he2:(te == 0)=false:=by simpa using he
    have HV:=hid (show cD s n=te∧eI s n=aW s∧tB=s.B by
     have h1:cD s n=te:=by rw [HE.out,HTR.out]
     have h2:=rM (h:=s.h) (B:=s.B) (n:=n) (by rw [HTR.out];exact he);rw [HTR.out] at h2;refine ⟨h1,?_,h2⟩;unfold eI;rw [h1,if_neg he])
    go_wp2_with fail;go_ret;refine ⟨by rw [HV.out.1];rfl,?_,HCZ.out⟩;rw [HV.out.2.1];refine ⟨by rw [bJ s];exact HXZ.out,?_,HS.out.ne,HS.out.ok⟩;rw [cU,← HV.out.2.2];exact HBZ.out
 ·have hb1:(be == 0)=false:=by simpa using h0
  have HV:=hid (show cD s n=be∧eI s n=aW s by
   have h1:cD s n=be:=by unfold cD;rw [HBE.out,if_pos h0]
   refine ⟨h1,?_⟩;unfold eI;rw [h1,if_neg h0])
  go_wp2_with fail;go_ret;exact ⟨by rw [HV.out.1];rfl,by rw [HV.out.2];exact HS.out,HC.out⟩
end Go.Proofs.YtdmhbgpejppbkaaGreat
namespace Go.Proofs.YtdmhbgpejppbkaaGreat
open Go.RowKit
def aU (W:He) (B:Int→By):Sf:=⟨4096,Hd.of W,B,-1⟩
theorem dx (W:He) (B:Int→By) (n:Int):bu (aU W B) n=kV W.pages n∧aW (aU W B)=aU W B:=by
 constructor
 ·unfold bu kV aU Hd.of;simp only;rw [if_neg (by decide)]
 ·unfold aW aU;simp only;rw [if_neg (by decide)]
theorem qo (W:He) (B:Int→By) (n:Int):kp (aU W B) n=oY B W.pages n:=by
 unfold kp;rw [(dx W B n).1];unfold kV oY
 split
 ·rw [if_neg (by decide)]
 ·rw [if_pos rfl];rfl
theorem pH (W:He) (B:Int→By) (n:Int) (l:By):fW (aU W B) n l=iX W.pages n l∧putS (aU W B) n l=aU W (mc B W.pages n l):=by
 have hb:=dx W B n;have h1:fW (aU W B) n l=iX W.pages n l:=by
  unfold fW;rw [hb.1];unfold kV iX;by_cases hn:n<1∨(W.pages:Int)≤n
  ·rw [if_pos hn,if_pos hn,if_neg (by decide)]
  ·rw [if_neg hn,if_neg hn,if_pos rfl]
 refine ⟨h1,?_⟩;unfold putS mc iX;rw [hb.1,hb.2];unfold kV;by_cases hn:n<1∨(W.pages:Int)≤n
 ·rw [if_pos hn,if_pos hn,if_neg (fun x=>absurd x.1 (by decide)),if_neg (by decide)]
 ·rw [if_neg hn,if_neg hn];by_cases hl:l.length=232
  ·rw [if_pos ⟨rfl,hl⟩,if_pos hl,if_pos rfl];rfl
  ·rw [if_neg (fun x=>hl x.2),if_neg hl,if_neg (by decide)]
theorem sX {W W':He} {B B':Int→By} (hw:Wok W) (h:uF W B W' B'):aG (aU W B)=(am (Hd.of W) B).e∧bH (aU W B)=(am (Hd.of W) B).n∧bi (aU W B)=aU W' B':=by
 have hE:aG (aU W B)=(am (Hd.of W) B).e:=by
  unfold aG aU;simp only;rw [if_neg (by decide)];by_cases hr:(Hd.of W).spare=0∧(4096:Int)≤(Hd.of W).pages
  ·rw [if_pos hr];unfold am;rw [if_pos hr.1,if_pos hr.2];rfl
  ·rw [if_neg hr]
 have htw:=pp hw B;unfold bH bi;rw [hE];rcases h with ⟨he,rfl,rfl⟩ | ⟨he,hh,rfl⟩
 ·rw [if_neg he,if_neg he,(dx _ _ 1).2];rcases htw with ⟨-,-,hn,-⟩ | ⟨h0,-⟩
  ·exact ⟨rfl,hn.symm,rfl⟩
  ·exact (he h0).elim
 ·rw [if_pos he,if_pos he,(dx _ _ 1).2];refine ⟨rfl,rfl,?_⟩;unfold aU;simp only;rw [hh];rfl
theorem rQ {W W':He} {B B':Int→By} {n:Int} (h:tP W B n W' B'):cD (aU W B) n=mA W B n∧eI (aU W B) n=aU W' B':=by
 have hE:cD (aU W B) n=mA W B n:=by
  unfold cD mA;rw [(dx W B n).1];unfold kV;by_cases hn:n<1∨(W.pages:Int)≤n
  ·rw [if_pos hn,if_pos hn,if_pos (by decide)]
  ·rw [if_neg hn,if_neg hn,if_neg (by decide)];rfl
 refine ⟨hE,?_⟩;unfold eI;rw [hE,(dx W B n).2];rcases h with ⟨he,rfl,rfl⟩ | ⟨he,hh,rfl⟩
 ·rw [if_neg he]
 ·rw [if_pos he];unfold aU;simp only;rw [hh]
theorem mQ (W:He) (B:Int→By) (n:Int):lQ (aU W B) n=kB W.pages n∧pt (aU W B) n=aU (nR W n) B:=by
 have h1:lQ (aU W B) n=kB W.pages n:=rfl;refine ⟨h1,?_⟩;unfold pt nR;rw [h1];by_cases h0:kB W.pages n=0
 ·rw [if_pos h0,if_pos h0];have hn:0≤n:=by
   unfold kB at h0;by_cases hx:n<0∨(W.pages:Int)≤n
   ·rw [if_pos hx] at h0;cases h0
   ·omega
  unfold aU Hd.of;simp only [Sf.mk.injEq,Hd.mk.injEq,true_and,and_true];omega
 ·rw [if_neg h0,if_neg h0]
end Go.Proofs.YtdmhbgpejppbkaaGreat
namespace Go.Proofs.YtdmhbgpejppbkaaGreat
open Go.Lib (hid)
open Go.RowKit Go.Maps
def sA (W:He) (B:Int→By) (x:Ac):By × Int × Int:=
 if x.kind=1 then (oY B W.pages x.n,0,kV W.pages x.n) else if x.kind=2 then ([],0,iX W.pages x.n x.put) else if x.kind=3 then ([],(am (Hd.of W) B).n,(am (Hd.of W) B).e) else if x.kind=4 then ([],0,mA W B x.n) else if x.kind=5 then ([],0,kB W.pages x.n) else ([],0,0)
def uE (x:Ac) (W:He) (B:Int→By) (W':He) (B':Int→By):Prop:=
 if x.kind=1 then W'=W∧B'=B else if x.kind=2 then W'=W∧B'=mc B W.pages x.n x.put else if x.kind=3 then uF W B W' B' else if x.kind=4 then tP W B x.n W' B' else if x.kind=5 then W'=nR W x.n∧B'=B else W'=W∧B'=B
def sL (s:Sf) (x:Ac):By × Int × Int:=
 if x.kind=1 then (kp s x.n,0,bu s x.n) else if x.kind=2 then ([],0,fW s x.n x.put) else if x.kind=3 then ([],bH s,aG s) else if x.kind=4 then ([],0,cD s x.n) else if x.kind=5 then ([],0,lQ s x.n) else ([],0,0)
def tK (s:Sf) (x:Ac):Sf:=
 if x.kind=1 then aW s else if x.kind=2 then putS s x.n x.put else if x.kind=3 then bi s else if x.kind=4 then eI s x.n else if x.kind=5 then pt s x.n else s
theorem sV {x:Ac} {W W':He} {B B':Int→By} (hw:Wok W) (h:uE x W B W' B'):sL (aU W B) x=sA W B x∧tK (aU W B) x=aU W' B':=by
 unfold uE at h;unfold sL sA tK;by_cases h1:x.kind=1
 ·simp only [if_pos h1] at h ⊢;rw [h.1,h.2];exact ⟨by rw [qo,(dx W B x.n).1],(dx W B x.n).2⟩
 simp only [if_neg h1] at h ⊢;by_cases h2:x.kind=2
 ·simp only [if_pos h2] at h ⊢;rw [h.1,h.2];have hp:=pH W B x.n x.put;exact ⟨by rw [hp.1],hp.2⟩
 simp only [if_neg h2] at h ⊢;by_cases h3:x.kind=3
 ·simp only [if_pos h3] at h ⊢;have hp:=sX hw h;exact ⟨by rw [hp.1,hp.2.1],hp.2.2⟩
 simp only [if_neg h3] at h ⊢;by_cases h4:x.kind=4
 ·simp only [if_pos h4] at h ⊢;have hp:=rQ h;exact ⟨by rw [hp.1],hp.2⟩
 simp only [if_neg h4] at h ⊢;by_cases h5:x.kind=5
 ·simp only [if_pos h5] at h ⊢;rw [h.1,h.2];have hp:=mQ W B x.n;exact ⟨by rw [hp.1],hp.2⟩
 simp only [if_neg h5] at h ⊢;rw [h.1,h.2];exact ⟨by first | trivial | rfl,rfl⟩
def uQ (r:By × Int × Int):Value:=oX r.1 r.2.1 r.2.2
theorem qy (x:Ac) (hk1:1≤x.kind) (hk5:x.kind≤5) (f:Value) (w:World) {L:PgL} {P:Pgr} {B:Int→By} {W:He} (h:PgIs w L P) (hs:St P B W):
  Calls Tryz.prog 12 #[au L.gp,.agg (x.cells f)] w fun e w'=>e=.returned (uQ (sA W B x))∧∃ W' B',uE x W B W' B'∧StTo w L B' W' w':=by
 unfold sA uE uQ;by_cases h1:x.kind=1
 ·simp only [if_pos h1];exact (oI x f h1 w h hs).mono fun e w' ⟨a,b⟩=>⟨a,W,B,⟨rfl,rfl⟩,b⟩
 simp only [if_neg h1];by_cases h2:x.kind=2
 ·simp only [if_pos h2];exact (oH x f h2 w h hs).mono fun e w' ⟨a,b⟩=>⟨a,W,_,⟨rfl,rfl⟩,b⟩
 simp only [if_neg h2];by_cases h3:x.kind=3
 ·simp only [if_pos h3];exact oG x f h3 w h hs
 simp only [if_neg h3];by_cases h4:x.kind=4
 ·simp only [if_pos h4];exact oF x f h4 w h hs
 simp only [if_neg h4];by_cases h5:x.kind=5
 ·simp only [if_pos h5];exact (oE x f h5 w h hs).mono fun e w' ⟨a,b⟩=>⟨a,_,B,⟨rfl,rfl⟩,b⟩
 simp only [if_neg h5];omega
def Dk.setRoom (d:Dk) (n:Int):Dk:={ d with room:=min (max n 0) 16384 }
theorem pD (n:Int) (w:World) {L:DkM} {d:Dk} (h:DkIs w L d):
  Calls Tryz.prog 42 #[.pointer (some ⟨L.gd,0,none⟩),.int .i64 n] w fun e w'=>e=.returned (.tuple #[])∧DkIs w' L (d.setRoom n)∧Ch (fun k=>k=L.gd) w w':=by
 obtain ⟨ops,hb⟩:=h.blk;have HH:=hid h;obtain ⟨c0,c1,c2,c3,c4,c5,c6,c7,hlt,hfz⟩:=bo hb;have f1:=hfz 1;obtain ⟨m,hm⟩:∃ m,m=min (max n 0) 16384:=⟨_,rfl⟩;have HM:=hid hm;have H1:=hid (ae hb 1 (.int .i64 m));have HC:=hid ((Ch.refl (fun k=>k=L.gd) w).setCell (p:=⟨L.gd,1,none⟩) rfl (.int .i64 m));have HD:=hid (show DkIs (w.setCell ⟨L.gd,1,none⟩ (.int .i64 m)) L (d.setRoom n) from by
  refine HH.out.blk' (ops:=ops) HC.out ?_ rfl ⟨HH.out.ok.nd,HH.out.ok.few,HH.out.ok.fok,?_,HH.out.ok.life,HH.out.ok.at_,HH.out.ok.kind,HH.out.ok.more⟩
  ·rw [show rX L.gm (d.setRoom n) ops=.cells #[.map (some L.gm),.int .i64 m,.bool d.down,.int .i64 ops,.int .i64 d.life,.int .i64 d.at_,.int .i64 d.kind,.int .i64 d.more] 69 (0,0) by rw [HM.out];rfl];exact H1.out
  ·show 0≤min (max n 0) 16384∧min (max n 0) 16384≤16384;omega)
 clear h hb hfz;go_enter Tryz.func42,Tryz.ntmps42;obtain rfl:=HM.out;clear hm;go_wp2_with fail;exact bodyPost_end (results_none rfl _ _ _) rfl ⟨rfl,HD.out,HC.out⟩
theorem DkIs.fresh {w:World} {gd gm:Nat} (hm:kA w gm []) (hb:∃ ops,w.heap[gd]?=some (rX gm ⟨[],0,false,0,0,0,0⟩ ops)) (hn:gm≠gd):DkIs w ⟨gd,gm,[],fun _=>False,fun _=>[],fun _=>filZ⟩ ⟨[],0,false,0,0,0,0⟩:=
 ⟨⟨List.nodup_nil,Nat.zero_le _,fun _ h=>(by cases h),by decide,by decide,by decide,by decide,by decide⟩,hb,hm,fun _ h=>h.elim,fun _ h=>(by cases h),rfl,hn,⟨id,id⟩,fun _ h=>(by cases h),fun _ h=>(by cases h)⟩
theorem lx (n:Int) (w:World):Calls Tryz.prog 10 #[.int .i64 n] w fun e w'=>∃ L,e=.returned (.pointer (some ⟨L.gd,0,none⟩))∧DkIs w' L (Dk.new n)∧(∀ k,L.F k→w.heap.size≤k)∧Below w.heap.size w w':=by
 have hmm:=@run_makeMap Tryz.prog;have h0:(w.alloc (.map #[] 0)).heap.size=w.heap.size+1:=by simp
 have HMP:=hid ((MpIs.made (kt:=9) (R:=em) (kl:=kk) (vd:=tL) w).ch (S:=fun _=>False) ((Ch.refl _ _).alloc (rX w.heap.size ⟨[],0,false,0,0,0,0⟩ 0)) id);have HD:=hid (DkIs.fresh HMP.out ⟨0,ah h0.symm⟩ (by omega));have HB:=hid (((Below.refl _ w).alloc (Nat.le_refl _) (.map #[] 0)).alloc (by simp) (rX w.heap.size ⟨[],0,false,0,0,0,0⟩ 0));go_enter Tryz.func10,Tryz.ntmps10;go_wp2_with fail;refine (pD n _ HD.out).mono ?_;rintro e w1 ⟨rfl,hd,hc⟩;have HD1:=hid hd;have HB1:=hid (HB.out.trans (hc.below (B:=w.heap.size) (by simp;omega) (fun k e=>by rw [e];simp only;omega)));clear hd hc;go_wp2_with fail;go_ret;refine ⟨_,rfl,HD1.out,fun k hk=>?_,HB1.out⟩;rcases hk with hk | hk | hk | ⟨p,hp,hk⟩
 ·rw [hk];simp only;omega
 ·rw [hk];exact Nat.le_refl _
 ·exact hk.elim
 ·cases hp
theorem rA (w:World) {L:DkM} {d:Dk} (h:DkIs w L d) (hl:d.life<1000000):
  Calls Tryz.prog 15 #[.pointer (some ⟨L.gd,0,none⟩)] w fun e w'=>e=.returned (.tuple #[])∧DkIs w' L d.off∧Ch (fun k=>k=L.gd) w w':=by
 obtain ⟨ops,hb⟩:=h.blk;have HH:=hid h;have hlf:=h.ok.life;obtain ⟨c0,c1,c2,c3,c4,c5,c6,c7,hlt,hfz⟩:=bo hb;have f2:=hfz 2;have f4:=hfz 4;have f5:=hfz 5;have hw:IntKind.i64.wrap (d.life+1)=d.life+1:=by rw [IntKind.wrap_i64];omega
 have HOK:=hid (show d.off.Ok from ⟨HH.out.ok.nd,HH.out.ok.few,HH.out.ok.fok,HH.out.ok.room,by unfold Dk.off;split <;> simp only <;> omega,by unfold Dk.off;simp,HH.out.ok.kind,HH.out.ok.more⟩);have HB:=hid hb;clear h hb hfz;go_enter Tryz.func15,Tryz.ntmps15;cases hd:d.down
 ·rw [hd] at c2;have H1:=hid (ae (ae (ae HB.out 4 (.int .i64 (d.life+1))) 2 (.bool true)) 5 (.int .i64 0));have HC:=hid ((((Ch.refl (fun k=>k=L.gd) w).setCell (p:=⟨L.gd,4,none⟩) rfl (.int .i64 (d.life+1))).setCell (p:=⟨L.gd,2,none⟩) rfl (.bool true)).setCell (p:=⟨L.gd,5,none⟩) rfl (.int .i64 0));have HE:=hid (show d.off={ d with life:=d.life+1,down:=true,at_:=0 } by unfold Dk.off;rw [hd];rfl);go_wp2_with fail;exact bodyPost_end (results_none rfl _ _ _) rfl ⟨rfl,HH.out.blk' (ops:=ops) HC.out (by rw [HE.out];exact H1.out) rfl HOK.out,HC.out⟩
 ·rw [hd] at c2;have H1:=hid (ae (ae HB.out 2 (.bool true)) 5 (.int .i64 0));have HC:=hid (((Ch.refl (fun k=>k=L.gd) w).setCell (p:=⟨L.gd,2,none⟩) rfl (.bool true)).setCell (p:=⟨L.gd,5,none⟩) rfl (.int .i64 0));have HE:=hid (show d.off={ d with down:=true,at_:=0 } by unfold Dk.off;rw [hd];rfl);go_wp2_with fail;exact bodyPost_end (results_none rfl _ _ _) rfl ⟨rfl,HH.out.blk' (ops:=ops) HC.out (by rw [HE.out];exact H1.out) rfl HOK.out,HC.out⟩
def Pgr.empty (P:Pgr):Pgr:={ P.ended with ca:=[],base:=0,head:=⟨1,1,0,0,0,0⟩ }
theorem mF {w:World} {L:PgL} {P:Pgr} (h:w.heap[L.gp]?=some (co L P)) (H:He):((((((w.setCell ⟨L.gp,2,none⟩ (.int .i64 H.mode)).setCell ⟨L.gp,3,none⟩ (.int .i64 H.pages)).setCell ⟨L.gp,4,none⟩ (.int .i64 H.trunk)).setCell ⟨L.gp,5,none⟩ (.int .i64 H.spare)).setCell ⟨L.gp,6,none⟩ (.int .i64 H.root)).setCell ⟨L.gp,7,none⟩ (.int .u64 H.change)).heap[L.gp]?=some (co L { P with head:=H }):=by have s1:_=some (co L { P with head:={ P.head with mode:=H.mode } }):=ae h 2 (.int .i64 H.mode);have s2:_=some (co L { P with head:={ P.head with mode:=H.mode,pages:=H.pages } }):=ae s1 3 (.int .i64 H.pages);have s3:_=some (co L { P with head:={ P.head with mode:=H.mode,pages:=H.pages,trunk:=H.trunk } }):=ae s2 4 (.int .i64 H.trunk);have s4:_=some (co L { P with head:={ P.head with mode:=H.mode,pages:=H.pages,trunk:=H.trunk,spare:=H.spare } }):=ae s3 5 (.int .i64 H.spare);have s5:_=some (co L { P with head:={ P.head with mode:=H.mode,pages:=H.pages,trunk:=H.trunk,spare:=H.spare,root:=H.root } }):=ae s4 6 (.int .i64 H.root);exact ae s5 7 (.int .u64 H.change)
def rL (w:World) (g:Nat):World:=(((((((w.setCell ⟨g,9,none⟩ (.pointer none)).setCell ⟨g,8,none⟩ (.int .i64 0)).setCell ⟨g,2,none⟩ (.int .i64 1)).setCell ⟨g,3,none⟩ (.int .i64 1)).setCell ⟨g,4,none⟩ (.int .i64 0)).setCell ⟨g,5,none⟩ (.int .i64 0)).setCell ⟨g,6,none⟩ (.int .i64 0)).setCell ⟨g,7,none⟩ (.int .u64 0)
theorem qk {w:World} {L:PgL} {P:Pgr} (h:PgIs w L P):PgIs (rL w L.gp) L { P with base:=0,head:=⟨1,1,0,0,0,0⟩ }∧Ch (fun k=>k=L.gp) w (rL w L.gp):=by have hc:Ch (fun k=>k=L.gp) w (rL w L.gp):=((((((((Ch.refl (fun k=>k=L.gp) w).setCell (p:=⟨L.gp,9,none⟩) rfl _).setCell (p:=⟨L.gp,8,none⟩) rfl _).setCell (p:=⟨L.gp,2,none⟩) rfl _).setCell (p:=⟨L.gp,3,none⟩) rfl _).setCell (p:=⟨L.gp,4,none⟩) rfl _).setCell (p:=⟨L.gp,5,none⟩) rfl _).setCell (p:=⟨L.gp,6,none⟩) rfl _).setCell (p:=⟨L.gp,7,none⟩) rfl _;have s1:_=some (co L P):=ae h.blk 9 (.pointer none);have s2:_=some (co L { P with base:=0 }):=ae s1 8 (.int .i64 0);have s3:=mF s2 ⟨1,1,0,0,0,0⟩;exact ⟨h.setBlk (P':={ P with base:=0,head:=⟨1,1,0,0,0,0⟩ }) hc s3 rfl rfl rfl rfl rfl ⟨h.ok.s1,h.ok.s2,Nat.zero_le _,by show 1≤4096;decide,h.ok.wp,h.ok.nos⟩,hc⟩
theorem ml (w:World) {L:PgL} {P:Pgr} (h:PgIs w L P) (hd:P.d.files=[]) (hdn:P.d.down=false):
  Calls Tryz.prog 45 #[au L.gp] w fun e w'=>e=.returned (.int .i64 0)∧PTo w L P.empty w':=by
 have HE:=hid (fo w h);have HH:=hid h;have hj:P.d.size bg=-1:=Dk.size_none (by unfold Dk.file;rw [hd];rfl);have hm:P.d.size aI=-1:=Dk.size_none (by unfold Dk.file;rw [hd];rfl);have HSZ:=hid (And.intro hj (And.intro hm hdn));have hl0:=(ai h.blk).lt;unfold au at *;clear h hd hdn hj hm;go_enter Tryz.func45,Tryz.ntmps45;go_wp2_with fail;refine HE.out.mono ?_;rintro e w1 ⟨rfl,hp,hc⟩;have HP1:=hid (And.intro hp hc);have c1:=(ai hp.blk).c1;have hl1:=(ai hp.blk).lt;simp only [PgL.bare] at c1 hl1;have HCL:=hid (lD w1 hp.ca (by have:=hp.ok.s1;omega));simp only [PgL.bare] at HCL;clear hp hc;go_wp2_with fail;refine HCL.out.mono ?_;rintro e w2 ⟨F',rfl,hca,hF,hch⟩;obtain ⟨G,-,p2,f2,k2⟩:=HP1.out.1.putCa hca hF hch;have HP2:=hid p2;have HT2:=hid (And.intro f2 k2);clear hca hF hch p2 f2 k2;have hg2:(({ L.bare with Fc:=fun k=>k ∈ G }:PgL)).gp=L.gp:=rfl;have HG2:=hid hg2;generalize ({ L.bare with Fc:=fun k=>k ∈ G }:PgL)=L2 at *;go_wp2_with fail;refine (jx w2).mono ?_;rintro e w3 ⟨rfl,hb3⟩;have HB3:=hid hb3;have HP3:=hid (HP2.out.below hb3);have hC:=ai HP3.out.blk;have c2:=hC.c2;have c3:=hC.c3;have c4:=hC.c4;have c5:=hC.c5;have c6:=hC.c6;have c7:=hC.c7;have c8:=hC.c8;have c9:=hC.c9;have z2:=hC.fz 2;have z3:=hC.fz 3;have z4:=hC.fz 4;have z5:=hC.fz 5;have z6:=hC.fz 6;have z7:=hC.fz 7;have z8:=hC.fz 8;have z9:=hC.fz 9;have hl3:=hC.lt;have hq:=qk HP3.out;rw [hg2] at c2 c3 c4 c5 c6 c7 c8 c9 z2 z3 z4 z5 z6 z7 z8 z9 hl3 hq;have HQ:=hid hq;unfold rL at HQ;unfold eH ko;clear hC hb3 hg2 hq c1;go_upto_region 4 with fail
 have hw4:∃ w4,rL w3 L.gp=w4:=⟨_,rfl⟩;obtain ⟨w4,hw4⟩:=hw4;unfold rL at hw4;rw [hw4] at HQ ⊢;clear hw4 c2 c3 c4 c5 c6 c7 c8 c9 z2 z3 z4 z5 z6 z7 z8 z9 hl3 hl0;have c0:=(ai HQ.out.1.blk).c0;have hl4:=(ai HQ.out.1.blk).lt;rw [HG2.out] at c0 hl4;have HSJ:=hid (cn bg (by decide) w4 HQ.out.1.dk);have HSM:=hid (cn aI (by decide) w4 HQ.out.1.dk);have HDN:=hid (bL w4 HQ.out.1.dk);simp only [Pgr.ended] at HSJ HSM HDN;rw [HSZ.out.1] at HSJ;rw [HSZ.out.2.1] at HSM;rw [HSZ.out.2.2] at HDN;have HF:=hid (show PTo w L P.empty w4 from by
  refine PTo.and (L:=L) (L1:=L.bare) rfl (fun k hk=>?_) (HP1.out.2.mono fun k _ e=>.inl e) (PTo.and (L:=L.bare) HG2.out HT2.out.1 HT2.out.2 (PTo.pre ?_ HB3.out))
  ·rcases hk with hk | hk | hk | hk | hk
   ·exact .inl (.inl hk)
   ·exact .inl (.inr (.inl hk))
   ·exact .inl (.inr (.inr (.inl hk)))
   ·exact hk.elim
   ·rcases hk with hk | hk
    ·cases hk
    ·cases hk
  ·exact ⟨L2,rfl,HQ.out.1,fun _ hk=>.inl hk,HQ.out.2.mono fun k _ e=>.inl (e.trans HG2.out.symm)⟩)
 unfold dQ at HSJ HSM;unfold au at c0;go_wp2_with fail;refine HSJ.out.mono ?_;rintro e w5 ⟨rfl,rfl⟩;go_wp2_with fail;refine HDN.out.mono ?_;rintro e w5 ⟨rfl,rfl⟩;go_wp2_with fail;refine HSM.out.mono ?_;rintro e w5 ⟨rfl,rfl⟩;go_wp2_with fail;go_ret;exact ⟨rfl,HF.out⟩
def Pgr.fresh (d:Dk) (size:Int) (gd:Nat):Pgr:=⟨d,rm size,[],⟨0,0,0,0,0,0⟩,0,d.life,false,false,false,false,⟨0,0,0,0,0,0⟩,[],0,false,none,false,gd⟩
theorem ip (size:Int) (w:World) {D:DkM} {d:Dk} (h:DkIs w D d) (hd:d.files=[]) (hdn:d.down=false):
  Calls Tryz.prog 11 #[au D.gd,.int .i64 size] w fun e w'=>∃ L,e=.returned (.tuple #[au L.gp,.int .i64 0])∧PgIs w' L (Pgr.fresh d size D.gd).empty∧(∀ k,L.F k→D.F k∨w.heap.size≤k)∧Ch D.F w w':=by
 have HH:=hid h;have HD:=hid (And.intro hd hdn);unfold au;clear h hd hdn;go_enter Tryz.func11,Tryz.ntmps11;go_wp2_with fail;refine (qJ size w).mono ?_;rintro e w1 ⟨v,Fc,rfl,hca,hF,hb1⟩;obtain ⟨a,rfl⟩:=hca.ptr;have HD1:=hid (HH.out.ch (Ch.of_below (S:=fun _=>False) hb1) (fun _ _ h=>h));have HL:=hid (cr w1 HD1.out);have HB1:=hid hb1;have HCA:=hid hca;have HF1:=hid hF;clear hca hF hb1;go_wp2_with fail;refine HL.out.mono ?_;rintro e w2 ⟨rfl,rfl⟩;obtain ⟨G,hG1,hG2⟩:=HCA.out.lt;have hsz:=jQ size
 have hPI:PgIs (w1.alloc (co ⟨w1.heap.size,D,.pointer (some a),fun k=>k ∈ G,none,.slice none 0 0,[]⟩ (Pgr.fresh d size D.gd))) ⟨w1.heap.size,D,.pointer (some a),fun k=>k ∈ G,none,.slice none 0 0,[]⟩ (Pgr.fresh d size D.gd):=by
  have hA:Below w1.heap.size w1 (w1.alloc (co ⟨w1.heap.size,D,.pointer (some a),fun k=>k ∈ G,none,.slice none 0 0,[]⟩ (Pgr.fresh d size D.gd))):=(Below.refl _ w1).alloc (Nat.le_refl _) _;have hDl:∀ k,D.F k→k<w.heap.size:=fun k hk=>HH.out.lt hk
  have hws:=HB1.out.size;refine PgIs.build ⟨hsz.1,hsz.2,Nat.zero_le _,Nat.zero_le _,Nat.zero_le _,Nat.zero_le _⟩ (ah rfl) (HD1.out.ch (Ch.of_below (S:=fun _=>False) hA) (fun _ _ h=>h)) (hG2.below hA) (fun k hk=>Nat.lt_of_lt_of_le (hG1 k hk).1 hA.size) (.inl ⟨rfl,rfl⟩) (SvIs.nil _) ⟨fun hk=>?_,fun hk=>?_,fun hk=>hk,fun hk=>?_,fun k hk hc=>?_,fun _ _ hc=>hc,fun k _ hc=>?_,fun _ _ hc=>hc,fun k _ hc=>?_,fun _ hk=>hk.elim⟩ rfl
  ·have:=hDl _ hk;simp only at this;omega
  ·have:=(hG1 _ hk).1;simp only at this;omega
  ·rcases hk with hk | hk <;> cases hk
  ·have:=hDl k hk;have:=HF1.out k (hG1 k hc).2;omega
  ·rcases hc with hc | hc <;> cases hc
  ·rcases hc with hc | hc <;> cases hc
 have HPI:=hid hPI;have HF0:=hid (ml _ hPI HD.out.1 HD.out.2);have HGG:=hid (fun k (hk:k ∈ G)=>HF1.out k (hG1 k hk).2);unfold au at HF0;clear hPI hG1 hG2 hsz;go_wp2_with fail;refine HF0.out.mono ?_;rintro e w2 ⟨rfl,L2,g2,p2,f2,k2⟩;have HT:=hid (And.intro p2 (And.intro f2 k2));have HG:=hid g2;clear g2 p2 f2 k2;go_wp2_with fail;go_ret2;have hws:=HB1.out.size
 have hF2:∀ k,L2.F k→D.F k∨w.heap.size≤k:=fun k hk=>by
  rcases HT.out.2.1 k hk with hk | hk
  ·rcases hk with hk | hk | hk | hk | hk
   ·right;have hk:k=w1.heap.size:=hk;omega
   ·exact .inl hk
   ·exact .inr (HGG.out k hk)
   ·exact hk.elim
   ·rcases hk with hk | hk <;> cases hk
  ·right;simp at hk;omega
 exact ⟨L2,by rw [HG.out];rfl,HT.out.1,hF2,((Ch.of_below HB1.out).trans (Ch.of_below ((Below.refl _ w1).alloc (Nat.le_refl _) _))).then HT.out.2.2 fun k hk=>by
  rcases hk with hk | hk | hk | hk | hk
  ·right;have hk:k=w1.heap.size:=hk;omega
  ·exact .inl hk
  ·exact .inr (HGG.out k hk)
  ·exact hk.elim
  ·rcases hk with hk | hk <;> cases hk⟩
end Go.Proofs.YtdmhbgpejppbkaaGreat
namespace Go.Proofs.YtdmhbgpejppbkaaGreat
open Go.RowKit Go.Maps
def uA (p:Ac × Value):List Value:=[.int .i64 p.1.kind,.int .i64 p.1.n,.string (ak p.1.data),.bool p.1.short,p.2]
theorem sn (p:Ac × Value):(uA p).length=5:=rfl
def W0:He:=⟨1,1,0,0,0,0⟩
def B0:Int→By:=fun _=>cy
theorem st0 {w:World} {L:PgL} {size:Int} {gd:Nat} (h:PgIs w L (Pgr.fresh (Dk.new 16384) size gd).empty.started):St (Pgr.fresh (Dk.new 16384) size gd).empty.started B0 W0:=by
 have hs:=jQ size;refine ⟨⟨⟨rfl,rfl,rfl,rfl⟩,hs.1,hs.2,⟨h.dk.ok,⟨rfl,rfl⟩,rfl,fun p hp=>(by cases hp),Nat.zero_le _,.inl ⟨rfl,rfl⟩⟩,rfl,rfl,by show 0<1000;decide,?_,⟨List.nodup_nil,fun x hx=>(by cases hx),fun x hx=>(by cases hx),fun p hp=>(by cases hp),fun m h1 h2=>?_⟩,fun _=>List.length_replicate,by show 1≤4096;decide⟩,rfl,rfl,by decide,by show 1≤4096;decide,by decide,by show 0≤4095;decide,fun h=>absurd rfl h⟩
 ·have:=hs.1;show ((0:Nat):Int)≤rm size;omega
 ·exact absurd h2 (by show ¬ m<1;omega)
structure Lp (w:World) (gp gs gm:Nat) (wr:World) (L:PgL) (P:Pgr) (W:He) (B:Int→By):Prop where
 gp:L.gp=gp
 is:PgIs wr L P
 st:St P B W
 sh:ShIs wr gs gm (aU W B)
 n1:¬ L.F gs
 n2:¬ L.F gm
 g1:w.heap.size≤gs
 g2:w.heap.size≤gm
 F:∀ k,L.F k→w.heap.size≤k
 b:Below w.heap.size w wr
def LpE (w:World) (gp gs gm:Nat) (wr:World):Prop:=∃ L P W B,Lp w gp gs gm wr L P W B
theorem Lp.below {w wr w2:World} {gp gs gm:Nat} {L:PgL} {P:Pgr} {W:He} {B:Int→By} (h:Lp w gp gs gm wr L P W B) (hb:Below wr.heap.size wr w2):Lp w gp gs gm w2 L P W B:=
 { h with
   is:=h.is.below hb
   sh:=h.sh.ch (Ch.of_below (S:=fun _=>False) hb) (fun h=>h) (fun h=>h)
   b:=h.b.trans (hb.mono h.b.size) }
theorem Lp.shelf {w wr w2:World} {gp gs gm:Nat} {L:PgL} {P:Pgr} {W:He} {B:Int→By} (h:Lp w gp gs gm wr L P W B) (hc:Ch (fun k=>k=gs∨k=gm) wr w2):PgIs w2 L P∧Below w.heap.size w w2:=
 ⟨h.is.ch hc fun _ hk e=>e.elim (fun e=>h.n1 (e ▸ hk)) (fun e=>h.n2 (e ▸ hk)),h.b.trans (hc.below h.b.size fun _ e=>e.elim (fun e=>e ▸ h.g1) (fun e=>e ▸ h.g2))⟩
theorem rD:sZ 4096=aU W0 B0:=rfl
theorem pr {W:He} (hw:Wok W) (B:Int→By) (x:Ac):sL (aU W B) x=sA W B x:=by
 have hE:aG (aU W B)=(am (Hd.of W) B).e:=by
  unfold aG aU;simp only;rw [if_neg (by decide)];by_cases hr:(Hd.of W).spare=0∧(4096:Int)≤(Hd.of W).pages
  ·rw [if_pos hr];unfold am;rw [if_pos hr.1,if_pos hr.2];rfl
  ·rw [if_neg hr]
 have hN:bH (aU W B)=(am (Hd.of W) B).n:=by
  unfold bH;rw [hE];rcases pp hw B with ⟨h1,-,hn,-⟩ | ⟨h0,-⟩
  ·rw [if_neg h1];exact hn.symm
  ·rw [if_pos h0];rfl
 have hF:cD (aU W B) x.n=mA W B x.n:=by
  unfold cD mA;rw [(dx W B x.n).1];unfold kV;by_cases hn:x.n<1∨(W.pages:Int)≤x.n
  ·rw [if_pos hn,if_pos hn,if_pos (by decide)]
  ·rw [if_neg hn,if_neg hn,if_neg (by decide)];rfl
 unfold sL sA;rw [qo,(dx W B x.n).1,(pH W B x.n x.put).1,hN,hE,hF,(mQ W B x.n).1]
def sdB (r:By × Int × Int):Obj:=.cells #[.string (ak r.1),.int .i64 r.2.1,.int .i64 r.2.2] 34 (0,0)
def tN (x:Ac) (f:Value):Obj:=.cells (x.cells f) 32 (0,0)
structure Md (w:World) (L:PgL) (P:Pgr) (W:He) (B:Int→By) (gs gm gx:Nat) (x:Ac) (f:Value) (wc:World):Prop where
 bx:wc.heap[gx]?=some (tN x f)
 ba:wc.heap[gx+1]?=some (sdB (sA W B x))
 is:PgIs wc L P
 sh:ShIs wc gs gm (tK (aU W B) x)
 b:Below w.heap.size w wc
structure Ah (w:World) (gp gs gm gx:Nat) (wa:World) (L:PgL) (P:Pgr) (W:He) (B:Int→By) (x:Ac) (f:Value):Prop where
 lp:Lp w gp gs gm wa L P W B
 bx:wa.heap[gx]?=some (tN x f)
 ba:wa.heap[gx+1]?=some dW
 x1:w.heap.size≤gx
 x2:gs<gx
 x3:gm<gx
 x4:∀ k,L.F k→k<gx
theorem Ah.of {w wr:World} {gp gs gm:Nat} {L:PgL} {P:Pgr} {W:He} {B:Int→By} (h:Lp w gp gs gm wr L P W B) (x:Ac) (f:Value):Ah w gp gs gm wr.heap.size ((wr.alloc (tN x f)).alloc dW) L P W B x f:=
 ⟨h.below (((Below.refl wr.heap.size wr).alloc (Nat.le_refl _) _).alloc (by simp) _),aj (ah (w0:=wr) (g:=wr.heap.size) (o:=tN x f) rfl) dW,ah (w0:=wr.alloc (tN x f)) (g:=wr.heap.size+1) (o:=dW) (by simp),h.b.size,af h.sh.blk,h.sh.book.lt,fun k hk=>h.is.lt hk⟩
section
variable {w wa w7:World} {gp gs gm gx:Nat} {L:PgL} {P:Pgr} {W:He} {B:Int→By} {x:Ac} {f:Value}
theorem Ah.below {w2:World} (h:Ah w gp gs gm gx wa L P W B x f) (hb:Below wa.heap.size wa w2):Ah w gp gs gm gx w2 L P W B x f:=
 { h with lp:=h.lp.below hb,bx:=aw h.bx hb,ba:=aw h.ba hb }
theorem Ah.shelf (h:Ah w gp gs gm gx wa L P W B x f) (hc:Ch (fun k=>k=gs∨k=gm) wa w7):w7.heap[gx]?=some (tN x f)∧w7.heap[gx+1]?=some dW:=by have h2:=h.x2;have h3:=h.x3;exact ⟨hc.keep h.bx (fun e=>by omega),hc.keep h.ba (fun e=>by omega)⟩
theorem Ah.md (h:Ah w gp gs gm gx wa L P W B x f) (hs:ShIs w7 gs gm (tK (aU W B) x)) (hc:Ch (fun k=>k=gs∨k=gm) wa w7) {r:By × Int × Int} (hr:sL (aU W B) x=r):Md w L P W B gs gm gx x f (qW w7 (gx+1) (ak r.1) r.2.1 r.2.2):=by have h1:=h.x1;have h2:=h.x2;have h3:=h.x3;obtain ⟨k1,k2⟩:=h.shelf hc;obtain ⟨q1,q2⟩:=h.lp.shelf hc;have hw:=fU w7 (gx+1) (ak r.1) r.2.1 r.2.2;refine ⟨hw.keep k1 (fun e=>by omega),?_,q1.ch hw fun k hk e=>by have:=h.x4 k hk;omega,hs.ch hw (fun e=>by omega) (fun e=>by omega),q2.trans (hw.below q2.size fun k e=>by omega)⟩;rw [← pr h.lp.st.w,hr];exact dA k2 _ _ _
theorem Ah.md1 (h:Ah w gp gs gm gx wa L P W B x f) (hs:ShIs w7 gs gm (tK (aU W B) x)) (hc:Ch (fun k=>k=gs∨k=gm) wa w7) {e:Int} (hr:sL (aU W B) x=([],0,e)):Md w L P W B gs gm gx x f (w7.setCell ⟨gx+1,2,none⟩ (.int .i64 e)):=by have h1:=h.x1;have h2:=h.x2;have h3:=h.x3;obtain ⟨k1,k2⟩:=h.shelf hc;obtain ⟨q1,q2⟩:=h.lp.shelf hc;have hw:=(Ch.refl (fun k=>k=gx+1) w7).setCell (p:=⟨gx+1,2,none⟩) rfl (.int .i64 e);refine ⟨hw.keep k1 (fun e=>by omega),?_,q1.ch hw fun k hk e=>by have:=h.x4 k hk;omega,hs.ch hw (fun e=>by omega) (fun e=>by omega),q2.trans (hw.below q2.size fun k e=>by omega)⟩;rw [← pr h.lp.st.w,hr];exact ae k2 2 (.int .i64 e)
theorem Lp.next {w8 wc:World} {W':He} {B':Int→By} (h:Ah w gp gs gm gx wa L P W B x f) (hm:Md w L P W B gs gm gx x f wc) (hn:uE x W B W' B') (hto:StTo wc L B' W' w8):∃ L' P',Lp w gp gs gm w8 L' P' W' B':=by
 obtain ⟨P',hst,L',hg,hp,hf,hc⟩:=hto;have hsh:=hm.sh;rw [(sV h.lp.st.w hn).2] at hsh;have hb:=hm.b.size;refine ⟨L',P',hg.trans h.lp.gp,hp,hst,hsh.ch hc h.lp.n1 h.lp.n2,fun e=>(hf _ e).elim h.lp.n1 fun z=>?_,fun e=>(hf _ e).elim h.lp.n2 fun z=>?_,h.lp.g1,h.lp.g2,fun k hk=>(hf k hk).elim (h.lp.F k) fun z=>Nat.le_trans hb z,hm.b.trans (hc.below hb h.lp.F)⟩
 ·have:=af hsh.blk;omega
 ·have:=hsh.book.lt;omega
theorem Lp.phead {wr:World} (h:Lp w gp gs gm wr L P W B):Calls Tryz.prog 13 #[.pointer (some ⟨gp,0,none⟩)] wr fun e w2=>e=.returned (.agg #[.int .i64 W.mode,.int .i64 W.pages,.int .i64 W.trunk,.int .i64 W.spare,.int .i64 W.root,.int .u64 W.change])∧Below wr.heap.size wr w2∧Lp w gp gs gm w2 L P W B:=by have hc:=jk wr h.is;rw [h.gp,show P.now=W from by unfold Pgr.now;rw [if_pos h.st.busy,h.st.work]] at hc;exact hc.mono fun _ _ ⟨a,b⟩=>⟨a,b,h.below b⟩
theorem Lp.shead {wr:World} (h:Lp w gp gs gm wr L P W B):Calls Tryz.prog 35 #[.pointer (some ⟨gs,0,none⟩)] wr fun e w2=>e=.returned (.agg #[.int .i64 W.mode,.int .i64 W.pages,.int .i64 W.trunk,.int .i64 W.spare,.int .i64 W.root,.int .u64 W.change])∧Below wr.heap.size wr w2∧Lp w gp gs gm w2 L P W B:=
 (nP gs gm _ wr h.sh).mono fun _ _ ⟨a,b⟩=>⟨a,b,h.below b⟩
end
end Go.Proofs.YtdmhbgpejppbkaaGreat
