/- The walk of cahierlaw17.WalkChanges. Arguments of WalkChanges: a list of changes. -/
import Derived.Test.YtknioodagnjchaaGreatDoorUWg
import Derived.Test.YtknioodagnjchaaGreatDoorUWf
import Derived.Test.YtknioodagnjchaaGreatDoorUAr
set_option maxRecDepth 100000
set_option maxHeartbeats 4000000
namespace Go.Proofs.YtknioodagnjchaaGreatDoor
open Go.Lib (hid)
open Go.RowKit Go.Shelf
attribute [local go_sem] Oper.semAt_some fg
abbrev Cg:=By × Bool
def vH (c:Cg):List Value:=[.string (ap c.1),.bool c.2]
theorem uD (c:Cg):(vH c).length=2:=rfl
theorem Sl.cg {w:World} {A:Option Addr} {n c k:Nat} {xs:List Cg} (h:Sl vH 2 w (.slice A n c) xs) (hk:k<xs.length):∃ b off,A=some ⟨b,off,none⟩∧b<w.heap.size∧w.cell? ⟨b,off+k * 2,none⟩=some (.string (ap xs[k].1))∧w.cell? ⟨b,off+k * 2+1,none⟩=some (.bool xs[k].2):=by
 obtain ⟨A',c',he,h⟩:=h;injection he with e1 e2 e3
 subst e1 e2;obtain ⟨b,off,rfl,hlt,hc⟩:=h (by rintro rfl;simp at hk);have:=hc k xs[k] (List.getElem?_eq_getElem hk);exact ⟨b,off,rfl,hlt,this 0 _ rfl,this 1 _ rfl⟩
def tL (cs:List Cg) (p:By):Bool:=cs.all fun c=>!decide (c.1=p)
theorem sf (cs:List Cg) (c:Cg) (p:By):tL (cs ++ [c]) p=(tL cs p && !decide (c.1=p)):=by unfold tL;rw [List.all_append];simp
def qZ (ps:List Pr) (cs:List Cg):List By:=(ps.filter fun p=>tL cs p.1).map (·.1)
theorem nX (ps:List Pr) (cs:List Cg) (p:Pr):qZ (ps ++ [p]) cs=qZ ps cs ++ if tL cs p.1 then [p.1] else []:=by
 unfold qZ;rw [List.filter_append,List.map_append];congr 1;rw [List.filter_cons]
 split <;> rfl
def CgT (gs gm bn:Nat) (d:Bool) (T U:List By) (root:Int) (N:Nat) (t:Ov) (pre:List (Pr × Int)) (A:World):Prop:=
 ∃ ps n,ShIs A gs gm t.s∧TS t.s root ps []∧Chg d T U ps (pre.map (·.1.1))∧(t.a=.err 0∨t.a=.ok (jL d ps (pre.getLast?.map fun x=>x.1.1)))∧n≤N∧n≤100∧wt ps≤600+2 * n∧A.heap[bn]?=some (.cells #[.int .i64 (n:Nat)] 3 (0,0))
theorem Stay.cgt {B gs gm M bn:Nat} {d:Bool} {T U:List By} {root:Int} {N:Nat} (h1:gs<B) (h2:gm<B) (h3:bn<M) (h4:bn≠gs) (h5:bn≠gm):Stay B gs gm M (uv d root) (uo d root) (CgT gs gm bn d T U root N):=by
 refine ⟨fun t pre W l o o' h hl ho hc=>?_,fun t pre W o h=>?_,fun t pre A t' B' h hg hs hg'=>?_⟩
 ·obtain ⟨ps,n,a1,a2,a3,a4,a5,a6,a7,a8⟩:=h;refine ⟨ps,n,a1.ch (bR W l o') (by omega) (by omega),a2,a3,a4,a5,a6,a7,(bR W l o').keep a8 ?_⟩;rintro rfl;rw [ho] at a8;injection a8 with a8
  subst a8;cases hc
 ·obtain ⟨ps,n,a1,a2,a3,a4,a5,a6,a7,a8⟩:=h;exact ⟨ps,n,a1.ch (S:=fun _=>False) (Ch.alloc (Ch.refl _ W) o) id id,a2,a3,a4,a5,a6,a7,ai a8 o⟩
 ·obtain ⟨ps,n,a1,a2,a3,a4,a5,a6,a7,a8⟩:=h;obtain ⟨e0,e1,g1,e2,e3,e4,hc⟩:=hs;have:=(hg' g1 e2).1;rw [a2.nxt (by simp;omega)] at e0;injection e0 with e5 e6
  rw [← e5] at e1;exact ⟨ps,n,e5 ▸ e1,e5 ▸ a2,a3,.inr e6.symm,a5,a6,a7,hc.keep a8 (by omega)⟩
theorem CgT.x {gs gm bn:Nat} {d:Bool} {T U:List By} {root:Int} {N:Nat} {t:Ov} {pre:List (Pr × Int)} {A:World} {x:Pr × Int} {WN:By→Bool} (h:CgT gs gm bn d T U root N t pre A) (hx:qd WN t pre x):
  x.2=0∧∃ ps n,ShIs A gs gm t.s∧TS t.s root ps []∧Chg d T U ps (pre.map (·.1.1))∧jL d ps (pre.getLast?.map fun x=>x.1.1)=some x.1∧n≤N∧n≤100∧wt ps≤600+2 * n∧A.heap[bn]?=some (.cells #[.int .i64 (n:Nat)] 3 (0,0)):=by
 obtain ⟨ps,n,a1,a2,a3,a4,a5,a6,a7,a8⟩:=h;obtain ⟨-,⟨p,e1,-,rfl⟩ | ⟨e,e1,e2,rfl⟩⟩:=hx
 ·refine ⟨rfl,ps,n,a1,a2,a3,?_,a5,a6,a7,a8⟩;rcases a4 with a4 | a4
  ·rw [e1] at a4;cases a4
  ·rw [e1] at a4;injection a4 with a4;exact a4.symm
 ·exfalso;rcases a4 with a4 | a4
  ·rw [e1] at a4;injection a4 with a4;exact e2 a4
  ·rw [e1] at a4;cases a4
def vZ (wL:World) (gs gm e0 bo bn B:Nat) (d:Bool) (T U:List By) (root:Int) (N:Nat) (t:Ov) (pre:List (Pr × Int)) (A:World):Prop:=
 CgT gs gm bn d T U root N t pre A∧wL.heap.size+2≤A.heap.size∧Ch (fun j=>j=gs∨j=gm∨e0≤j) wL A∧OutB sC 1 9 22 e0 bo B t (pre.map (·.1.1)) A∧∀ y ∈ pre,y.2=0
theorem sn {ps:List Pr} {cs:List Cg} (h:qe ps):∀ t ∈ qZ ps cs,(dG ps t).isSome=true:=fun t ht=>by
 unfold qZ at ht;obtain ⟨p,hp,rfl⟩:=List.mem_map.1 ht;rw [lq h (List.mem_filter.1 hp).1];rfl
theorem tV {ps:List Pr} {cs:List Cg} {c:Cg} (hc:c ∈ cs):c.1 ∉ qZ ps cs:=fun ht=>by
 unfold qZ at ht;obtain ⟨p,hp,he⟩:=List.mem_map.1 ht;have h1:=(List.mem_filter.1 hp).2;unfold tL at h1;have h2:=List.all_eq_true.1 h1 c hc;rw [← he] at h2;simp at h2
theorem o5 (ks:List By) (cs:List Cg) (down:Bool) (kv cv:Value) (w:World) (hk:Sl sC 1 w kv ks) (hcs:Sl vH 2 w cv cs):
  Calls Tryz.prog 12 #[kv,cv,.bool down] w fun e w'=>e=.returned (.bool true)∧Below w.heap.size w w':=by
 obtain ⟨Ac,cc,rfl⟩:=Sl.len' hcs;have HK:=hid hk;have HCS:=hid hcs;clear hk hcs;refine g9 Tryz.func12 rfl ?_;simp only [Tryz.ntmps12,List.size_toArray,List.length_cons,List.length_nil,Nat.reduceAdd,Nat.reduceSub,Array.replicate_succ,Array.replicate_zero,List.push_toArray,List.append_toArray,List.nil_append,List.cons_append];have HX1:=hid (show (((w.alloc (.cells #[.slice Ac cs.length cc] 82)).alloc (.cells #[.bool down] 4)).alloc (.cells #[.bool false] 4)).heap[w.heap.size]?=some (.cells #[.slice Ac cs.length cc] 82 (0,0)) from ai (ai (ag rfl) _) _);have HY1:=hid (show (((w.alloc (.cells #[.slice Ac cs.length cc] 82)).alloc (.cells #[.bool down] 4)).alloc (.cells #[.bool false] 4)).heap[w.heap.size+1]?=some (.cells #[.bool down] 4 (0,0)) from ai (ag (by simp)) _);have HR1:=hid (show (((w.alloc (.cells #[.slice Ac cs.length cc] 82)).alloc (.cells #[.bool down] 4)).alloc (.cells #[.bool false] 4)).heap[w.heap.size+1+1]?=some (.cells #[.bool false] 4 (0,0)) from ag (by simp));have HB1:=hid (show Below w.heap.size w (((w.alloc (.cells #[.slice Ac cs.length cc] 82)).alloc (.cells #[.bool down] 4)).alloc (.cells #[.bool false] 4)) from (((Below.refl _ w).alloc (Nat.le_refl _) _).alloc (by simp) _).alloc (by simp;omega) _);go_wp2_with fail;generalize ((w.alloc (.cells #[.slice Ac cs.length cc] 82)).alloc (.cells #[.bool down] 4)).alloc (.cells #[.bool false] 4)=w1 at *;refine (ph w1).mono ?_;rintro e w2 ⟨rfl,hb⟩;have HX2:=hid (ab HX1.out hb);have HY2:=hid (ab HY1.out hb);have HR2:=hid (ab HR1.out hb);have HB2:=hid (HB1.out.trans (hb.mono HB1.out.size));clear hb HR1 HX1 HY1;go_wp2_with fail;refine (oC ks false kv w2 (HK.out.keep HB2.out)).mono ?_;rintro e w3 ⟨gs,gm,g,root,rfl,⟨s,hs,hts⟩,⟨base,hbs,hm⟩,hn,hb⟩;have HWT:=hid (oD false (ks.take 200));have HTL:=hid (show (ks.take 200).length≤200 by rw [List.length_take];omega);generalize dX false (ks.take 200)=ps at *;have HPL:=hid (show ps.length≤200∧wt ps≤600 by have:=HWT.out;have:=HTL.out;omega);have HTS:=hid hts;have HS3:=hid hs;have HM3:=hid hm;have HN:=hid hn;have HX3:=hid (ab HX2.out hb);have HY3:=hid (ab HY2.out hb);have HR3:=hid (ab HR2.out hb);have HB3:=hid (HB2.out.trans (hb.mono HB2.out.size));have HG2:=hid (show w.heap.size+2<gs∧w.heap.size+2<gm∧w.heap.size+2<g by have:=hn;have:=aj HR2.out;omega);clear hs hts hn hm hbs hb HWT HTL HR2 HX2 HY2;go_upto_region 4 with fail
 have HP4:=hid (show ((w3.alloc (.cells #[.pointer (some ⟨gs,0,none⟩)] 24)).alloc (.cells #[.int .i64 root] 3)).heap[w3.heap.size]?=some (.cells #[.pointer (some ⟨gs,0,none⟩)] 24 (0,0)) from ai (ag rfl) _);have HQ4:=hid (show ((w3.alloc (.cells #[.pointer (some ⟨gs,0,none⟩)] 24)).alloc (.cells #[.int .i64 root] 3)).heap[w3.heap.size+1]?=some (.cells #[.int .i64 root] 3 (0,0)) from ag (by simp));have HD4:=hid (show Below w3.heap.size w3 ((w3.alloc (.cells #[.pointer (some ⟨gs,0,none⟩)] 24)).alloc (.cells #[.int .i64 root] 3)) from ((Below.refl _ w3).alloc (Nat.le_refl _) _).alloc (by simp) _);generalize (w3.alloc (.cells #[.pointer (some ⟨gs,0,none⟩)] 24)).alloc (.cells #[.int .i64 root] 3)=w4 at *;have HX4:=hid (ab HX3.out HD4.out);have HM4:=hid (HM3.out.ch (S:=fun _=>False) (Ch.of_below HD4.out) (fun _ h=>h.elim));have HC4:=hid ((HCS.out.keep HB3.out).keep HD4.out);have HOW:=hid (show Own sC 1 9 w4.heap.size (w4.alloc (.cells #[] 9)) (.slice (some ⟨w4.heap.size,0,none⟩) 0 0) (qZ (ps.take 0) (cs.take 100)) from World.ownsRow_lit w4 #[] 0 (Nat.le_refl _) (by simp [maxLen]) (by simp));have HBW:=hid (show Below w4.heap.size w4 (w4.alloc (.cells #[] 9)) from (Below.refl _ w4).alloc (Nat.le_refl _) _);go_wp2_with fail;go_loopw [10,11] (fun s10 s11 wr=>∃ i:Nat,i≤ps.length∧s11=.int .i64 i∧Own sC 1 9 w4.heap.size wr s10 (qZ (ps.take i) (cs.take 100))∧Below w4.heap.size w4 wr) (fun _ s11 _=>ps.length - (intOf s11).toNat)
 case atStart=>exact ⟨0,Nat.zero_le _,rfl,HOW.out,HBW.out⟩
 case round=>
  clear HOW HBW;obtain ⟨i,hi,rfl,ho,hb⟩:=hrel;obtain ⟨wo,hwo⟩:∃ wo:World,wo=wr:=⟨_,rfl⟩;subst hwo;have HO5:=hid ho;have HD5:=hid hb;have hp200:ps.length≤200:=HPL.out.1;have hsl:(qZ (ps.take i) (cs.take 100)).length≤200:=by unfold qZ;rw [List.length_map];refine Nat.le_trans (List.length_filter_le _ _) ?_;rw [List.length_take];have:=HPL.out;omega
  have HSL:=hid hsl;obtain ⟨As,cas,hsv⟩:=Sl.len' (ho.sl aQ);subst hsv;obtain ⟨Am,cm,mm,mo⟩:=(HM4.out.ch (S:=fun _=>False) (Ch.of_below hb) (fun _ h=>h.elim)).open;have MM:=hid mm;have MO:=hid (mo.sl cj);have m0:=ae mm 0;have m1:=aj mm;have hx5:=ab HX4.out hb;have HX5:=hid hx5;have x0:=ae hx5 0;have x1:=aj hx5;have HC5:=hid (HC4.out.keep hb);clear ho hb mm mo hx5 hsl;by_cases hlt:i<ps.length
  ·have hi1:(i:Int)<(ps.length:Int):=by omega
   have hi0:(0:Int)≤(i:Int):=by omega
   have HPI:=hid (show ps.take (i+1)=ps.take i ++ [ps[i]] from List.take_succ_eq_append_getElem hlt);obtain ⟨bp,offp,rfl,hbpl,c0,c1⟩:=MO.out.pair2 hlt;have HCP:=hid (And.intro c0 hbpl);have HLI:=hid hlt;generalize ps[i]=p at *;clear hlt;go_wp2_with fail;go_loopw [12,13] (fun s12 s13 wr=>∃ k:Nat,k≤cs.length∧k≤100∧s13=.int .i64 k∧s12=.bool (tL (cs.take k) p.1)∧Below wo.heap.size wo wr) (fun _ s13 _=>100 - (intOf s13).toNat)
   case atStart=>exact ⟨0,Nat.zero_le _,Nat.zero_le _,rfl,rfl,Below.refl _ _⟩
   case round=>
    obtain ⟨k,hk,hk100,rfl,rfl,hb⟩:=hrel;have HD6:=hid hb;clear x0 x1 m0 m1 c0 c1 hbpl;have x0:=ae (ab HX5.out hb) 0;have x1:=aj (ab HX5.out hb);clear hb;generalize hub:tL (cs.take k) p.1=ub at *;go_upto_region 10 with fail
    go_cut [54] from 47 to 73 (fun c wx=>c=.bool (decide (k<cs.length∧k<100))∧wx=wr)
    case first=>
     by_cases ha:k<cs.length
     ·have ha1:(k:Int)<(cs.length:Int):=by omega
      by_cases hb:k<100
      ·have hb1:(k:Int)<100:=by omega
       go_wp2_with fail;go_meet
       case rel=>exact ⟨by rw [decide_eq_true (show k<cs.length∧k<100 from ⟨ha,hb⟩)] <;> (first | rfl | rw [decide_eq_true hb1]),rfl⟩
      ·have hb1:(100:Int)≤(k:Int):=by omega
       go_wp2_with fail;go_meet
       case rel=>exact ⟨by rw [decide_eq_false (show ¬ (k<cs.length∧k<100) from fun h=>hb h.2)] <;> (first | rfl | rw [decide_eq_false (show ¬ (k:Int)<100 by omega)]),rfl⟩
     ·have ha1:(cs.length:Int)≤(k:Int):=by omega
      go_wp2_with fail;go_meet
      case rel=>exact ⟨by rw [decide_eq_false (show ¬ (k<cs.length∧k<100) from fun h=>ha h.1)],rfl⟩
    case rest=>
     obtain ⟨rfl,rfl⟩:=hcut;by_cases hlk:k<cs.length∧k<100
     ·have hdl:=decide_eq_true hlk;obtain ⟨hlk,hlk2⟩:=hlk;have HUK:=hid (show tL (cs.take (k+1)) p.1=(ub && !decide (cs[k].1=p.1)) by rw [List.take_succ_eq_append_getElem hlk,sf,hub]);cases ub
      ·go_wp2_with fail;go_quiet (fail);go_wp2_with fail;go_roundw
       case rel=>exact ⟨k+1,by omega,by omega,by go_num,by rw [HUK.out];rfl,HD6.out.trans ⟨rfl,rfl,rfl,Nat.le_refl _,fun _ _=>rfl⟩⟩
       case measure=>simp [intOf];omega
      ·obtain ⟨bc,offc,rfl,hbcl,d0,d1⟩:=(HC5.out.keep HD6.out).cg hlk;have hk1:(k:Int)<(cs.length:Int):=by omega
       have hk0:(0:Int)≤(k:Int):=by omega
       have m0:=ae (ab MM.out HD6.out) 0;have m1:=aj (ab MM.out HD6.out);have c0:=(HD6.out.cell (p:=⟨bp,offp+i * 2,none⟩) HCP.out.2).trans HCP.out.1;have hkq:=jR (a:=cs[k].1) (b:=p.1);generalize cs[k]=c at *;by_cases hcp:c.1=p.1
       ·rw [decide_eq_true hcp] at hkq HUK;clear hcp;go_wp2_with fail;go_quiet (fail);go_wp2_with fail;go_roundw
        case rel=>exact ⟨k+1,by omega,by omega,by go_num,by rw [HUK.out];rfl,HD6.out.trans ⟨rfl,rfl,rfl,Nat.le_refl _,fun _ _=>rfl⟩⟩
        case measure=>simp [intOf];omega
       ·rw [decide_eq_false hcp] at hkq HUK;have hne:((ap c.1).toList != (ap p.1).toList)=true:=by rw [bne,hkq];rfl
        have hne2:¬ (ap c.1).toList=(ap p.1).toList:=by simpa using hkq
        clear hcp;go_wp2_with fail;go_quiet (fail);go_wp2_with fail;go_roundw
        case rel=>exact ⟨k+1,by omega,by omega,by go_num,by rw [HUK.out];rfl,HD6.out.trans ⟨rfl,rfl,rfl,Nat.le_refl _,fun _ _=>rfl⟩⟩
        case measure=>simp [intOf];omega
     ·have hdl:=decide_eq_false hlk;rw [hdl];have HUE:=hid (show tL (cs.take 100) p.1=ub by
       rw [← hub];rcases Nat.lt_or_ge k cs.length with h | h
       ·have:k=100:=by omega
        rw [this]
       ·rw [List.take_of_length_le h,List.take_of_length_le (by omega)])
      have HDW:=hid (show Below w4.heap.size w4 wc from HD5.out.trans (HD6.out.mono HD5.out.size));have HOC:=hid (HO5.out.below HD6.out);clear hdl hlk hub;cases ub
      ·go_wp2_with fail;go_roundw
       case rel=>exact ⟨i+1,HLI.out,by go_num,by rw [HPI.out,nX,HUE.out];simpa using HOC.out,HDW.out⟩
       case measure=>have:=HLI.out;simp [intOf];omega
      ·have m0:=ae (ab MM.out HD6.out) 0;have m1:=aj (ab MM.out HD6.out);have c0:=(HD6.out.cell (p:=⟨bp,offp+i * 2,none⟩) HCP.out.2).trans HCP.out.1;have hbl2:bp<wc.heap.size:=Nat.lt_of_lt_of_le HCP.out.2 HD6.out.size;go_wp2_with (at_builtin;refine Hid.out ?_);refine hid ?_;refine aw (ys:=[p.1]) rfl rfl gI rfl rfl (HOC.out.alloc _) (Sl.one (p.1:By) (by simp) aQ rfl) (by have:=HSL.out;simp [maxLen];omega) (by have:=HSL.out;simp;omega) (by have:=HDW.out.size;simp;omega) ?_;intro v' w7 ho hg hat;have HO7:=hid (show Own sC 1 9 w4.heap.size w7 v' (qZ (ps.take (i+1)) (cs.take 100)) by rw [HPI.out,nX,HUE.out];exact ho);have HD7:=hid (cI (HDW.out.alloc HDW.out.size _) hg (by have:=HDW.out.size;simp;omega) (fun j hj=>(HOC.out.lt j hj).1));clear ho hg hat;go_wp2_with fail;go_roundw
       case rel=>exact ⟨i+1,HLI.out,by go_num,HO7.out,HD7.out⟩
       case measure=>have:=HLI.out;simp [intOf];omega
  ·obtain rfl:i=ps.length:=by omega
   rw [List.take_length] at HO5 HSL;clear hlt hi;have HT0:=hid (sn (cs:=cs.take 100) HTS.out.srt.1);have HTN:=hid (fun (n:Nat) (h:n<cs.length) (h2:n<100)=>tV (ps:=ps) (cs:=cs.take 100) (c:=cs[n]) (List.mem_take_iff_getElem.2 ⟨n,by omega,rfl⟩));generalize hstv:qZ ps (cs.take 100)=T at *;have hp5:=ab HP4.out HD5.out;have hq5:=ab HQ4.out HD5.out;have hy5:=ab (ab HY3.out HD4.out) HD5.out;have u0:=ae hp5 0;have u1:=aj hp5;have v0:=ae hq5 0;have v1:=aj hq5;have y0:=ae hy5 0;have y1:=aj hy5;have hfn:=oM;have HD6:=hid (show Below wo.heap.size wo ((wo.alloc (.cells #[] 9)).alloc (.cells #[.slice (some ⟨wo.heap.size,0,none⟩) 0 0] 22)) from ((Below.refl _ wo).alloc (Nat.le_refl _) _).alloc (by simp) _);have HBO:=hid (show ((wo.alloc (.cells #[] 9)).alloc (.cells #[.slice (some ⟨wo.heap.size,0,none⟩) 0 0] 22)).heap[wo.heap.size+1]?=some (.cells #[.slice (some ⟨wo.heap.size,0,none⟩) 0 0] 22 (0,0)) from ag (by simp));have HOM:=hid (show Own sC 1 9 wo.heap.size ((wo.alloc (.cells #[] 9)).alloc (.cells #[.slice (some ⟨wo.heap.size,0,none⟩) 0 0] 22)) (.slice (some ⟨wo.heap.size,0,none⟩) 0 0) ([]:List By) from Own.alloc (show Own sC 1 9 wo.heap.size (wo.alloc (.cells #[] 9)) (.slice (some ⟨wo.heap.size,0,none⟩) 0 0) ([]:List By) from World.ownsRow_lit wo #[] 0 (Nat.le_refl _) (by simp [maxLen]) (by simp)) _);have HZ6:=hid (show ((wo.alloc (.cells #[] 9)).alloc (.cells #[.slice (some ⟨wo.heap.size,0,none⟩) 0 0] 22)).heap.size=wo.heap.size+2 by simp);have HUU:=hid hp5;have HVV:=hid hq5;have HYY:=hid hy5;clear x0 x1 u0 u1 v0 v1 y0 y1 hp5 hq5 hy5;go_upto_region 16 with fail
   clear m0 m1;generalize (wo.alloc (.cells #[] 9)).alloc (.cells #[.slice (some ⟨wo.heap.size,0,none⟩) 0 0] 22)=w6 at *;have u0:=ae (ab HUU.out HD6.out) 0;have u1:=aj (ab HUU.out HD6.out);have v0:=ae (ab HVV.out HD6.out) 0;have v1:=aj (ab HVV.out HD6.out);go_wp2_with fail;refine (tQ gs root [] [] w6).mono ?_;rintro e w7 ⟨rfl,hup,hb7,hsz7⟩;have HUP:=hid hup;have HD7:=hid hb7;have HSZ7:=hid hsz7;have hy7:=ab (ab HYY.out HD6.out) hb7;clear hup u0 u1 v0 v1;unfold ua;have y0:=ae hy7 0;have y1:=aj hy7;have u0:=ae (ab (ab HUU.out HD6.out) hb7) 0;have u1:=aj (ab (ab HUU.out HD6.out) hb7);have v0:=ae (ab (ab HVV.out HD6.out) hb7) 0;have v1:=aj (ab (ab HVV.out HD6.out) hb7);clear hb7 hsz7 hy7;obtain ⟨UL,hUL⟩:∃ UL:List By,UL=ps.map (·.1) ++ (cs.take 100).map (·.1):=⟨_,rfl⟩;have HUL:=hid (show UL.length≤300 by rw [hUL,List.length_append,List.length_map,List.length_map,List.length_take];omega);have HUM:=hid (fun (n:Nat) (h:n<cs.length) (h2:n<100)=>show cs[n].1 ∈ UL by rw [hUL];exact List.mem_append_right _ (List.mem_map_of_mem (List.mem_take_iff_getElem.2 ⟨n,by omega,rfl⟩)));have HULE:=hid hUL;clear hUL;cases down
   case false=>
    go_wp2_with fail;have HNB:=hid (show (w7.alloc (.cells #[.int .i64 0] 3)).heap[w7.heap.size]?=some (.cells #[.int .i64 0] 3 (0,0)) from ag rfl);have HCL:=hid (show Below w7.heap.size w7 (w7.alloc (.cells #[.int .i64 0] 3)) from (Below.refl _ _).alloc (Nat.le_refl _) _);have HZL:=hid (show (w7.alloc (.cells #[.int .i64 0] 3)).heap.size=w7.heap.size+1 by simp);have hup8:=HUP.out.same (W':=w7.alloc (.cells #[.int .i64 0] 3)) (fun k h1 h2=>Below.heap_alloc _ _ _ (by have:=HSZ7.out;omega));have HUP8:=hid hup8;clear hup8;go_upto_region 22 with fail
    generalize w7.alloc (.cells #[.int .i64 0] 3)=wL at *;have HA:=hid (show Below w6.heap.size w6 wL from (HD7.out).trans (HCL.out.mono (HD7.out.size)));have HAO:=hid (show Below wo.heap.size wo wL from HD6.out.trans (HA.out.mono HD6.out.size));have HAL:=hid (show Below w3.heap.size w3 wL from (HD4.out.trans (HD5.out.mono HD4.out.size)).trans (HAO.out.mono (Nat.le_trans HD4.out.size HD5.out.size)));obtain ⟨bn,hbn⟩:∃ bn,w7.heap.size=bn:=⟨_,rfl⟩;rw [hbn] at HNB;simp only [hbn];have HZ:=hid (show gs<w3.heap.size∧gm<w3.heap.size∧w3.heap.size+1<w4.heap.size∧w4.heap.size≤wo.heap.size∧wo.heap.size+2≤w6.heap.size∧bn=w6.heap.size+7∧wL.heap.size=bn+1∧w.heap.size+2<gs∧w.heap.size+2<gm from
     ⟨aj HS3.out.blk,HS3.out.book.lt,aj HQ4.out,HD5.out.size,by have:=HZ6.out;omega,by have:=HSZ7.out;omega,by have:=HZL.out;omega,HG2.out.1,HG2.out.2.1⟩)
    have hsq:=uS Fence.wide 8 (fun _=>trivial) rfl (by omega) (fun _ _ _ _ _ h=>callsIn_wide.2 h) gs gm 400 root [] [] w6.heap.size ⟨by have:=HZ.out;omega,by have:=HZ.out;omega⟩ wL HUP8.out (by have:=HZ.out;omega);have hst:Stay wL.heap.size gs gm (wL.heap.size+2) (uv false root) (uo false root) (vZ wL gs gm wo.heap.size (wo.heap.size+1) bn w6.heap.size false T UL root cs.length):=by have h1:=HZ.out;exact (Stay.cgt (by omega) (by omega) (by omega) (by omega) (by omega)).and ((Stay.sz _).and ((Stay.ch (.inl rfl) (.inr (.inl rfl)) (Nat.le_refl _) (by omega)).and ((Stay.out (F:=fun pre=>pre.map (·.1.1)) (by omega) (by omega) (by omega) (by omega)).and (Stay.pure fun pre=>∀ y ∈ pre,y.2=0))))
    have e1:uv false root=au (cY [] false) 20 root:=by simp [uv]
    have e2:uo false root=fun k=>au (cY k true) 20 root:=by funext k;simp [uo]
    rw [e1,e2] at hst;clear e1 e2;have HST:=hid hst;clear hst
    refine gP (i:=17) (j:=18) (I:=vZ wL gs gm wo.heap.size (wo.heap.size+1) bn w6.heap.size false T UL root cs.length) (Ix:=fun _ _ _=>False) (s0:=⟨s,none,.err 0⟩)
     rfl hsq ?gs ?gm ?bb rfl HST.out.abide (fun _ _ _ _ _ _ h _ _ _=>h.elim) HST.out.sto ?sh rfl ?al HST.out.alloc ?assign ?body ?done (fun _ _ _ _ _ h _=>h.elim)
    case gs=>have:=HZ.out;omega
    case gm=>have:=HZ.out;omega
    case bb=>have:=HZ.out;omega
    case sh=> intro t pre A hi;obtain ⟨⟨p2,n,a1,-,a3,-⟩,h2,-⟩:=hi;refine ⟨a1,?_,h2⟩;have:=a3.len;rw [List.length_map] at this;have:=HUL.out;omega
    case al=> intro W hb hsz;have hd:Below w3.heap.size w3 W:=HAL.out.trans (hb.mono HAL.out.size);refine ⟨⟨ps,0,HS3.out.ch (S:=fun _=>False) (Ch.of_below hd) id id,HTS.out,⟨HT0.out,fun p hp=>by rw [HULE.out];exact List.mem_append_left _ (List.mem_map_of_mem hp),fun k hk=>absurd hk List.not_mem_nil,List.Pairwise.nil,fun t ht=>.inr rfl⟩,.inl rfl,Nat.zero_le _,Nat.zero_le _,HPL.out.2,ab HNB.out hb⟩,by omega,Ch.of_below hb,?_,fun y hy=>absurd hy List.not_mem_nil⟩;have hd2:Below w6.heap.size w6 W:=HA.out.trans (hb.mono HA.out.size);exact ⟨_,ab HBO.out hd2,HOM.out.below hd2,fun k hk=>⟨(fun e=>by cases e),.inl (by have h7:=(HOM.out.lt k hk).2;have h8:=Nat.le_refl w6.heap.size;omega)⟩⟩
    case assign=> rintro l ⟨⟨xk,xv⟩,xe⟩ W K hK;unfold fC at hK ⊢;simp at hK;gi_wp2;exact hK
    case body=>
     rintro l t pre x b W hl ⟨r,hr⟩ hi hgk hx hg hb;have HI:=hid hi;have HX:=hid hx;have HGK:=hid hgk;have HLR:=hid hr;obtain ⟨hx0,ps2,n,a1,a2,a3,a4,a5,a6,a7,a8⟩:=hi.1.x hx;have HSW:=hid a1;have HTW:=hid a2;have HCH:=hid a3;have HNX:=hid a4;have HWN:=hid (show n≤cs.length∧n≤100∧wt ps2≤600+2 * n from ⟨a5,a6,a7⟩);have HNW:=hid a8;have HCW:=hid hi.2.2.1;obtain ⟨v,h1,h2,h3⟩:=hi.2.2.2.1;obtain ⟨Ao,co,hv⟩:=Sl.len' (h2.sl aQ);rw [List.length_map] at hv;subst hv;have H1:=hid h1;have H2:=hid h2;have H3:=hid h3;have hdw:=HCW.out;have uu:=hdw.keep (ab HUU.out HAO.out) (by have:=HZ.out;omega);have vv:=hdw.keep (ab HVV.out HAO.out) (by have:=HZ.out;omega);have HUW:=hid uu;have HVW:=hid vv;have u0:=ae uu 0;have u1:=aj uu;have v0:=ae vv 0;have v1:=aj vv;obtain ⟨p0,p1,-,-,p4⟩:=ak hb;have HPB:=hid hb;obtain ⟨q,xe⟩:=x;have hx0:xe=0:=hx0;subst hx0;have HQM:=hid (jK HTW.out.srt.1 HNX.out);have HRG:=hid (show (c9 20 root q.1).run t.s=(t.s,.ok (some q.2)) by rw [HTW.out.get (by have:=HWN.out;simp;omega),lq HTW.out.srt.1 HQM.out.1]);have hpl:pre.length≤300:=by have:=a3.len;rw [List.length_map] at this;have:=HUL.out;omega
     clear hi hx hgk h1 h2 h3 hr hb uu vv hdw a1 a2 a3 a4 a5 a6 a7 a8;unfold fC;dsimp only at *;gi_wp2_with fail;refine ⟨trivial,(dq (oK HRG.out HSW.out)).mono ?_⟩;rintro e w11 ⟨rfl,hs,hc⟩;have HS11:=hid hs;have HC11:=hid hc;have hpb:=hc.keep HPB.out (by have:=HZ.out;omega);have hmb:=hc.keep H1.out (by have:=HZ.out;omega);have hyb:=hc.keep (HCW.out.keep (ab HYY.out HAO.out) (by have:=HZ.out;omega)) (by have:=HZ.out;omega);have HH1:=hid hmb;have HY1:=hid hyb;have HP1:=hid hpb;have HO1:=hid (H2.out.ch hc fun j hj e=>by have:=(H2.out.lt j hj).1;have:=HZ.out;omega);clear u0 u1 v0 v1 p0 p1 p4;obtain ⟨p0,p1,-,-,p4⟩:=ak hpb;have c0:=ae hmb 0;have c1:=aj hmb;have c2:=ac hmb 0;have y0:=ae hyb 0;have y1:=aj hyb;have h400:¬ (400:Int)<(pre.length:Int):=by omega
     clear hs hc hpb hmb hyb;gi_wp2_with fail;by_cases hp0:pre.length=0
     focus
      have hl0:decide ((0:Int)<(pre.length:Int))=false:=decide_eq_false (by omega);refine cH rfl (by kernel_rfl) (by kernel_rfl) ?_
      repeat (gi_big_quiet_step (fail))
      refine wpQuietIn_nil ?_;rintro _ ⟨nq,rfl⟩;clear hl0 hp0
     rotate_left
     focus
      have hl0:decide ((0:Int)<(pre.length:Int))=true:=decide_eq_true (by omega);have hl1:0<pre.length:=by omega
      have hlm:pre.length - 1<(pre.map (·.1.1)).length:=by rw [List.length_map];omega
      obtain ⟨g4,off4,he4,hg4,s0⟩:=(HO1.out.sl aQ).str1 hlm;generalize hmm:(pre.map (·.1.1))[pre.length - 1]=m at *;have hgl:(pre.getLast?.map fun x=>x.1.1)=some m:=by rw [← hmm,List.getLast?_eq_getElem?,List.getElem?_eq_getElem (by omega),List.getElem_map];rfl
      have hbh:=HQM.out.2.1;rw [hgl] at hbh;have hls:Op.bytesLess (ap m).toList (ap q.1).toList=!false:=by rw [aL,aL];show aU m q.1=!false;exact hbh
      have hkq:=jR (a:=m) (b:=q.1);rw [decide_eq_false (show ¬ m=q.1 from fun e=>by rw [e] at hbh;have h9:=nI false q.1;rw [show qS false (some q.1) q.1=qT false q.1 q.1 from rfl,h9] at hbh;cases hbh)] at hkq;have hkq2:¬ (ap m).toList=(ap q.1).toList:=by simpa using hkq
      subst he4;have hi2:IntKind.i64.wrap ((pre.length:Int) - 1)=((pre.length - 1:Nat):Int):=by rw [IntWalk.i64_in _ (by omega)];omega
      have hi3:((pre.length - 1:Nat):Int)<(pre.length:Int):=by omega
      have hi4:(0:Int)≤((pre.length - 1:Nat):Int):=by omega
      clear hgl hbh hmm hlm;refine cH rfl (by kernel_rfl) (by kernel_rfl) ?_
      repeat (gi_big_quiet_step (fail))
      refine wpQuietIn_nil ?_;rintro _ ⟨nq,rfl⟩;clear hls hkq hkq2 s0 hi2 hi3 hi4 hl0 hl1 hg4 hp0
     all_goals
      gi_wp2_with (gi_at_builtin;refine Hid.out ?_);refine hid ?_;have hoa:=(show Own sC 1 9 wo.heap.size (w11.drewN nq) (.slice _ pre.length co) (pre.map (·.1.1)) from HO1.out).alloc (.cells #[.string (ap q.1)] 9);have HBW:=hid (show Below w11.heap.size w11 ((w11.drewN nq).alloc (.cells #[.string (ap q.1)] 9)) from (show Below w11.heap.size w11 (w11.drewN nq) from ⟨rfl,rfl,rfl,Nat.le_refl _,fun _ _=>rfl⟩).alloc (Nat.le_refl _) _);refine fd (ys:=[q.1]) rfl rfl gI rfl rfl hoa (Sl.one (q.1:By) (by simp) aQ rfl) (by simp [maxLen];omega) (by simp;omega) (by have:=HBW.out.size;have:=HC11.out.size;have:=HI.out.2.1;have:=HZ.out;omega) ?_;intro v' w12 ho hgr hat;obtain ⟨Av,cv,hvv⟩:=Sl.len' (ho.sl aQ);rw [show (pre.map (·.1.1) ++ [q.1]).length=pre.length+1 by simp] at hvv;subst hvv;have h7:=OutB.at7 HH1.out HO1.out HBW.out hgr (by decide);have f0:=ae h7 0;have f1:=aj h7;have f2:=ac h7 0;have HPU:=hid (OutB.push (s:=t) HH1.out HO1.out H3.out HBW.out (by have:=HC11.out.size;have:=HI.out.2.1;have:=HZ.out;omega) ho hgr hat (fun g e=>Nat.lt_of_lt_of_le (HGK.out g e).2 HC11.out.size) (by decide));clear hoa ho hgr hat h7 c0 c1 c2 p0 p1 p4 y0 y1;gi_upto_region 31 with fail
      generalize w12.setCell ⟨wo.heap.size+1,0,none⟩ (.slice Av (pre.length+1) cv)=w13 at *;clear f0 f1 f2
      have HNP:=hid (show ∀ j ty cur,w11.heap[j]?=some (.cells cur ty (0,0))→9≠ty→j≠wo.heap.size+1→w13.heap[j]?=some (.cells cur ty (0,0)) from fun j ty cur hj hne hjb=>HPU.out.2.keep hj (by
       rintro (e | ⟨-,-,-,cur2,e⟩)
       ·exact hjb e
       ·rw [hj] at e;injection e with e
        injection e with _ e _
        exact hne e.symm))
      have HN13:=hid (HNP.out _ _ _ (HC11.out.keep HNW.out (by have:=HZ.out;omega)) (by decide) (by have:=HZ.out;omega));have HU13:=hid (HNP.out _ _ _ (HC11.out.keep HUW.out (by have:=HZ.out;omega)) (by decide) (by have:=HZ.out;omega));have HV13:=hid (HNP.out _ _ _ (HC11.out.keep HVW.out (by have:=HZ.out;omega)) (by decide) (by have:=HZ.out;omega));have HX13:=hid (HNP.out _ _ _ (HC11.out.keep (HCW.out.keep (ab HX3.out HAL.out) (by have:=HZ.out;omega)) (by have:=HZ.out;omega)) (by decide) (by have:=HZ.out;omega));have HS13:=hid (HS11.out.ch HPU.out.2 (by rintro (e | ⟨e,-⟩) <;> (have:=HZ.out;omega)) (by rintro (e | ⟨e,-⟩) <;> (have:=HZ.out;omega)));have HB13:=hid (show Below w.heap.size w w13 from (HB3.out.trans (HAL.out.mono HB3.out.size)).trans (((HCW.out.mono (S':=fun j=>w.heap.size≤j) fun j _ e=>by have:=HZ.out;omega).trans ((HC11.out.mono fun j _ e=>by have:=HZ.out;omega).trans (HPU.out.2.mono fun j _ e=>by have:=HZ.out;rcases e with e | ⟨e,-⟩ <;> omega))).below (by have:=HB3.out.size;have:=HAL.out.size;omega) (fun j e=>e)));have HC3:=hid (show Chg false T UL ps2 (pre.map (·.1.1) ++ [q.1]) from HCH.out.next HTW.out.srt.1 (by rw [List.getLast?_map];exact HNX.out));gi_wp2_with fail;gi_loopw [22] (fun s22 wr=>∃ (k:Nat) (ps3:List Pr) (n3:Nat) (s3:Sf),k≤2∧s22=.int .i64 k∧ShIs wr gs gm s3∧TS s3 root ps3 []∧Chg false T UL ps3 (pre.map (·.1.1) ++ [q.1])∧n3≤cs.length∧n3≤100∧wt ps3≤600+2 * n3∧wr.heap[bn]?=some (.cells #[.int .i64 (n3:Nat)] 3 (0,0))∧Ch (fun j=>j=gs∨j=gm∨j=bn) w13 wr) (fun s22 _=>2 - (intOf s22).toNat)
      case atStart=>exact ⟨0,ps2,n,t.s,by omega,rfl,HS13.out,HTW.out,HC3.out,HWN.out.1,HWN.out.2.1,HWN.out.2.2,HN13.out,Ch.refl _ _⟩
      case round=>
       clear HC3;obtain ⟨k,ps3,n3,s3,hk,rfl,hs3,ht3,hc3,hn3,hn100,hw3,hnb,hch⟩:=hrel;have HS3R:=hid hs3;have HT3R:=hid ht3;have HCR3:=hid hc3;have HWR:=hid (And.intro hn3 (And.intro hn100 hw3));have HNR:=hid hnb;have HCR:=hid hch;have n0:=ae hnb 0;have n1:=aj hnb;have n2:=ac hnb 0;have hxr:=hch.keep HX13.out (by have:=HZ.out;omega);have hur:=hch.keep HU13.out (by have:=HZ.out;omega);have hvr:=hch.keep HV13.out (by have:=HZ.out;omega);have x0:=ae hxr 0;have x1:=aj hxr;have HUR:=hid hur;have HVR:=hid hvr;clear hs3 ht3 hc3 hw3 hnb hch hxr hur hvr;by_cases hgo:k<2∧n3<cs.length∧n3<100
       ·obtain ⟨hk2,hnc,hnh⟩:=hgo;have hk3:(k:Int)<2:=by omega
        have hnc1:(n3:Int)<(cs.length:Int):=by omega
        have hnh1:(n3:Int)<100:=by omega
        have hn0:(0:Int)≤(n3:Int):=by omega
        have hnw:IntKind.i64.wrap ((n3:Int)+1)=((n3+1:Nat):Int):=by rw [IntWalk.i64_in _ (by omega)];rfl
        have hbwr:Below w.heap.size w wr:=HB13.out.trans ((HCR.out.mono (S':=fun j=>w.heap.size≤j) fun j _ e=>by have:=HZ.out;omega).below HB13.out.size (fun j e=>e));obtain ⟨bc,offc,rfl,hbcl,d0,d1⟩:=(HCS.out.keep hbwr).cg hnc;have HTN3:=hid (HTN.out n3 hnc hnh);have HUM3:=hid (HUM.out n3 hnc hnh);generalize cs[n3]=c at *;obtain ⟨ck,cb⟩:=c;dsimp only at d0 d1 HTN3 HUM3;have hwb:bn<wr.heap.size:=n1;have hca:Ch (fun j=>j=bn) wr ((wr.setCell ⟨bn,0,none⟩ (.int .i64 ((n3:Int)+1))).alloc (.cells #[.string (ap ck),.bool cb] 84)):=((Ch.refl (fun j=>j=bn) wr).setCell (p:=⟨bn,0,none⟩) rfl _).alloc _;have HCA:=hid hca;have HCC:=hid (show ((wr.setCell ⟨bn,0,none⟩ (.int .i64 ((n3:Int)+1))).alloc (.cells #[.string (ap ck),.bool cb] 84)).heap[wr.heap.size]?=some (.cells #[.string (ap ck),.bool cb] 84 (0,0)) from
         ag (by simp))
        have HN21:=hid (show ((wr.setCell ⟨bn,0,none⟩ (.int .i64 ((n3:Int)+1))).alloc (.cells #[.string (ap ck),.bool cb] 84)).heap[bn]?=some (.cells #[.int .i64 ((n3+1:Nat):Int)] 3 (0,0)) from ai (jv HNR.out _) _);clear hca;gi_upto_region 36 with fail
        generalize (wr.setCell ⟨bn,0,none⟩ (.int .i64 ((n3:Int)+1))).alloc (.cells #[.string (ap ck),.bool cb] 84)=w21 at *;generalize wr.heap.size=gc at *;have HS21:=hid (HS3R.out.ch HCA.out (by have:=HZ.out;omega) (by have:=HZ.out;omega));have HC21:=hid (HCR.out.trans (HCA.out.mono fun _ _ e=>.inr (.inr e)));have hu21:=HCA.out.keep HUR.out (by have:=HZ.out;omega);have hv21:=HCA.out.keep HVR.out (by have:=HZ.out;omega);clear x0 x1 n0 n1 n2 d0 d1 hbcl;have u0:=ae hu21 0;have u1:=aj hu21;have v0:=ae hv21 0;have v1:=aj hv21;have b0:=ae HCC.out 0;have b1:=ae HCC.out 1;have b2:=aj HCC.out;clear hu21 hv21;have hsz:(ap ck).size=ck.length:=aC ck;by_cases hlen:64<ck.length
        ·have hg1:(64:Int)<((ap ck).size:Int):=by omega
         gi_wp2_with fail;go_roundw
         case rel=>exact ⟨k+1,ps3,n3+1,s3,by omega,by go_num,HS21.out,HT3R.out,HCR3.out,by omega,by omega,(by have:=HWR.out;omega),HN21.out,HC21.out⟩
         case measure=>simp [intOf];omega
        ·have hg1:¬ (64:Int)<((ap ck).size:Int):=by omega
         cases cb
         ·obtain ⟨s',r1,r2,-⟩:=HT3R.out.put (by have:=HWR.out;simp;omega) (k:=ck) (v:=[110,101,119]) (by omega) (by decide);have HR1:=hid r1;have HR2:=hid r2;clear r1 r2;gi_wp2_with fail;refine ⟨trivial,(dq (jF HR1.out HS21.out)).mono ?_⟩;rintro e w22 ⟨rfl,hs,hc⟩;have hn22:=hc.keep HN21.out (by have:=HZ.out;omega);have HWP:=hid (show wt (putP ps3 ck [110,101,119])≤600+2 * (n3+1) by
           have h1:=po ps3 ck [110,101,119];have h2:=p7 (v:=[110,101,119]) (n:=3) (by decide);have h3:chn [110,101,119]=0:=by decide +kernel
           have:=HWR.out;omega)
          gi_wp2_with fail;go_roundw
          case rel=>exact ⟨k+1,putP ps3 ck [110,101,119],n3+1,s',by omega,by go_num,hs,HR2.out,(HCR3.out.put HUM3.out),by omega,by omega,HWP.out,hn22,HC21.out.trans (hc.mono fun _ _ e=>e.elim .inl (fun e=>.inr (.inl e)))⟩
          case measure=>simp [intOf];omega
         ·obtain ⟨s',r1,r2,-⟩:=HT3R.out.del (by have:=HWR.out;simp;omega) ck;have HR1:=hid r1;have HR2:=hid r2;clear r1 r2;gi_wp2_with fail;refine ⟨trivial,(dq (tj HR1.out HS21.out)).mono ?_⟩;rintro e w22 ⟨rfl,hs,hc⟩;have hn22:=hc.keep HN21.out (by have:=HZ.out;omega);have HWP:=hid (show wt (fD ps3 ck)≤600+2 * (n3+1) by
           have h1:=r8 ps3 ck;have:=HWR.out;omega)
          gi_wp2_with fail;go_roundw
          case rel=>exact ⟨k+1,fD ps3 ck,n3+1,s',by omega,by go_num,hs,HR2.out,(HCR3.out.del HTN3.out),by omega,by omega,HWP.out,hn22,HC21.out.trans (hc.mono fun _ _ e=>e.elim .inl (fun e=>.inr (.inl e)))⟩
          case measure=>simp [intOf];omega
       ·rcases (show ¬ (k:Int)<2∨((k:Int)<2∧¬ (n3:Int)<(cs.length:Int))∨((k:Int)<2∧(n3:Int)<(cs.length:Int)∧¬ (n3:Int)<100) by omega) with hk3 | ⟨hk3,hnc1⟩ | ⟨hk3,hnc1,hnh1⟩
        all_goals
         clear hgo;gi_wp2_with fail;have hz:=HZ.out;have hsw:=HI.out.2.1
         have hcF:Ch (fun j=>PushS 9 wo.heap.size (wo.heap.size+1) w6.heap.size t w11 j∨j=gs∨j=gm∨j=bn) W wr:=
          ((HC11.out.mono fun _ _ e=>e.elim (fun e=>.inr (.inl e)) (fun e=>.inr (.inr (.inl e)))).trans (HPU.out.2.mono fun _ _ e=>.inl e)).trans (HCR.out.mono fun _ _ e=>.inr e)
         have hob:OutB sC 1 9 22 wo.heap.size (wo.heap.size+1) w6.heap.size t (pre.map (·.1.1) ++ [q.1]) wr:=HPU.out.1.ch HCR.out (by omega) (fun j h1 h2 h3 h4 h5=>by
          obtain ⟨cur,hcur⟩:=h5;rintro (e | e | e)
          ·omega
          ·omega
          ·subst e;rw [HN13.out] at hcur;injection hcur with e
           injection e with _ e _
           exact absurd e (by decide))
         refine ⟨gV hcF ?_,⟨s3,t.g,.err 0⟩,⟨rfl,hcF.size,fun j hj hjl=>hcF.block j hjl ?_⟩,⟨ps3,n3,HS3R.out,HT3R.out,?_,.inl rfl,HWR.out.1,HWR.out.2.1,HWR.out.2.2,HNR.out⟩,Nat.le_trans hsw hcF.size,HCW.out.trans (hcF.mono fun j _ e=>?_),?_,fun y hy=>?_⟩
         ·rintro j o hbj e ho;rcases e with (e | ⟨-,-,-,cur,e⟩) | e | e | e
          ·subst e;rw [H1.out] at ho;injection ho with ho;subst ho;rfl
          ·rw [HC11.out.block j (aj ho) (by omega)] at e;rw [e] at ho;injection ho with ho;subst ho;rfl
          ·omega
          ·omega
          ·subst e;rw [HNW.out] at ho;injection ho with ho;subst ho;rfl
         ·rintro ((e | ⟨e1,e2,e3,-⟩) | e | e | e)
          all_goals
           rcases hj with hj | hj
           ·omega
           ·first
             | exact e2 hj
             | (have:=(HGK.out _ hj).1;omega)
         ·rw [List.map_append];exact HCR3.out
         ·rcases e with (e | ⟨e,-⟩) | e | e | e
          ·exact .inr (.inr (by omega))
          ·exact .inr (.inr e)
          ·exact .inl e
          ·exact .inr (.inl e)
          ·exact .inr (.inr (by omega))
         ·rw [List.map_append];exact hob
         ·rcases List.mem_append.1 hy with hy | hy
          ·exact HI.out.2.2.2.2 y hy
          ·rw [List.mem_singleton.1 hy]
    case done=>
     rintro D t xs W hD hgk he hi hk;obtain ⟨⟨ps2,n,-,-,a3,a4,-⟩,-,h3,⟨v,h4,h5,-⟩,h6⟩:=hi
     have hnx:jL false ps2 (xs.getLast?.map fun x=>x.1.1)=none:=by
      rcases he with he | ⟨p,he,hw⟩ | ⟨pr2,e,he,hne⟩
      ·rcases a4 with a4 | a4
       ·rw [he] at a4;cases a4
       ·rw [he] at a4;injection a4 with a4;exact a4.symm
      ·exfalso
       first
       | exact absurd (show true=false from hw) (by decide)
       | (have hw2:(!aU p.1 [])=false:=hw
          rw [gA] at hw2;cases hw2)
      ·exact absurd (h6 (([],[]),e) (by rw [he];simp)) hne
     have HML:=hid (show (xs.map fun x=>x.1.1).length≤300 by have:=a3.len;rw [List.length_map] at this ⊢;have:=HUL.out;omega);have HEND:=hid (a3.end (by rw [List.getLast?_map];exact hnx));have HKD:=hid hk;have HCW:=hid h3;have HOT:=hid (((HO5.out.below HAO.out).ch h3 fun j hj e=>by have:=HO5.out.lt j hj;have:=HZ.out;omega).sl aQ);have HOX:=hid (h5.sl aQ);generalize xs.map (fun x=>x.1.1)=met at *;obtain ⟨Ao,co,hv⟩:=Sl.len' HOX.out;subst hv;have HMB:=hid h4;have HRW:=hid (h3.keep (ab HR3.out HAL.out) (by have:=HZ.out;omega));have HDD:=hid (show wL.heap.size≤D∧D<W.heap.size from ⟨hD,aj hk⟩);have HBW:=hid (show Below w.heap.size w W from (HB3.out.trans (HAL.out.mono HB3.out.size)).trans ((h3.mono (S':=fun j=>w.heap.size≤j) fun j _ e=>by have:=HZ.out;omega).below (by have:=HB3.out.size;have:=HAL.out.size;omega) (fun j e=>e)));clear hk hgk he h3 h4 h5 h6 hnx a3 a4 hD;go_wp2_with fail;go_loopw [26] (fun s26 wr=>∃ i:Nat,i≤T.length∧s26=.int .i64 i∧Below W.heap.size W wr) (fun s26 _=>T.length - (intOf s26).toNat)
     case atStart=>exact ⟨0,Nat.zero_le _,rfl,Below.refl _ _⟩
     case round=>
      obtain ⟨i,hi,rfl,hb⟩:=hrel;have HD9:=hid hb;clear hb;have htl:T.length≤200:=HSL.out;have hml:met.length≤300:=HML.out;by_cases hlt:i<T.length
      ·have hi1:(i:Int)<(T.length:Int):=by omega
       have hi0:(0:Int)≤(i:Int):=by omega
       have HLI:=hid hlt;have HEI:=hid (HEND.out T[i] (List.getElem_mem hlt));obtain ⟨g4,off4,he4,hg4,s0⟩:=HOT.out.str1 hlt;subst he4;have HG4:=hid hg4;have HS0:=hid s0;generalize T[i]=x at *;clear hg4 s0 hlt;go_wp2_with fail;go_loopw [27,28] (fun s27 s28 wr=>∃ k:Nat,k≤met.length∧s28=.int .i64 k∧s27=.bool ((met.take k).any fun m=>decide (m=x))∧Below W.heap.size W wr) (fun _ s28 _=>met.length - (intOf s28).toNat)
       case atStart=>exact ⟨0,Nat.zero_le _,rfl,rfl,HD9.out⟩
       case round=>
        obtain ⟨k,hk,rfl,rfl,hb⟩:=hrel;have HDA:=hid hb;have c0:=ae (ab HMB.out hb) 0;have c1:=aj (ab HMB.out hb);have s0:=(hb.cell HG4.out).trans HS0.out;have s1:=Nat.lt_of_lt_of_le HG4.out hb.size;clear hb;generalize hub:((met.take k).any fun m=>decide (m=x))=ub at *;by_cases hlk:k<met.length
        ·have hk1:(k:Int)<(met.length:Int):=by omega
         have hk0:(0:Int)≤(k:Int):=by omega
         have HUK:=hid (show ((met.take (k+1)).any fun m=>decide (m=x))=(ub || decide (met[k]=x)) by rw [List.take_succ_eq_append_getElem hlk,List.any_append,hub];simp);clear hub;cases ub
         ·obtain ⟨g5,off5,he5,hg5,t0⟩:=(HOX.out.keep HDA.out).str1 hlk;subst he5;have hkq:=jR (a:=met[k]) (b:=x);generalize met[k]=m at *;by_cases hcp:m=x
          ·rw [decide_eq_true hcp] at hkq HUK;have hkq2:(ap m).toList=(ap x).toList:=by rw [hcp]
           clear hcp;go_wp2_with fail;go_quiet (fail);go_wp2_with fail;go_roundw
           case rel=>exact ⟨k+1,by omega,by go_num,by rw [HUK.out];rfl,HDA.out.trans ⟨rfl,rfl,rfl,Nat.le_refl _,fun _ _=>rfl⟩⟩
           case measure=>simp [intOf];omega
          ·rw [decide_eq_false hcp] at hkq HUK;have hkq2:¬ (ap m).toList=(ap x).toList:=by simpa using hkq
           clear hcp;go_wp2_with fail;go_quiet (fail);go_wp2_with fail;go_roundw
           case rel=>exact ⟨k+1,by omega,by go_num,by rw [HUK.out];rfl,HDA.out.trans ⟨rfl,rfl,rfl,Nat.le_refl _,fun _ _=>rfl⟩⟩
           case measure=>simp [intOf];omega
         ·go_wp2_with fail;go_quiet (fail);go_wp2_with fail;go_roundw
          case rel=>exact ⟨k+1,by omega,by go_num,by rw [HUK.out];rfl,HDA.out.trans ⟨rfl,rfl,rfl,Nat.le_refl _,fun _ _=>rfl⟩⟩
          case measure=>simp [intOf];omega
        ·obtain rfl:ub=true:=by rw [← hub,List.take_of_length_le (by omega)];exact List.any_eq_true.2 ⟨x,HEI.out,decide_eq_true rfl⟩
         clear hub;go_wp2_with fail;go_roundw
         case rel=>exact ⟨i+1,HLI.out,by go_num,HDA.out⟩
         case measure=>have:=HLI.out;simp [intOf];omega
      ·obtain rfl:i=T.length:=by omega
       clear hlt hi;have hx0:=ab HRW.out HD9.out;have HX0:=hid hx0;have r0:=ae hx0 0;have r1:=aj hx0;have r2:=ac hx0 0;clear hx0;go_wp2_with fail;have hc1:=(Ch.refl (fun j=>j=w.heap.size+1+1) wr).setCell (p:=⟨w.heap.size+1+1,0,none⟩) rfl (.bool true);have hk3:=hc1.keep (ab HKD.out HD9.out) (by have:=HZ.out;have:=HDD.out;omega);have hc2:=bR (wr.setCell ⟨w.heap.size+1+1,0,none⟩ (.bool true)) D (.deferred none);have hz:=ae (hc2.keep (jv HX0.out (.bool true)) (by have:=HZ.out;have:=HDD.out;omega)) 0;have hb:=(hc1.mono (S':=fun j=>w.heap.size≤j) (fun j _ e=>by omega)).trans (hc2.mono (fun j _ e=>by have:=HZ.out;have:=HDD.out;omega));have hbr:=HBW.out.trans (HD9.out.mono HBW.out.size);exact jz (v:=.bool true) hk3 (by simp [results,Tryz.results12,go_sem,hz]) ⟨rfl,hbr.trans (hb.below hbr.size (fun j h=>h))⟩
   case true=>
    go_wp2_with fail;refine (lW gs root [] [] w7).mono ?_;rintro e w8 ⟨rfl,hdn,hb8,hsz8⟩;have HDN:=hid hdn;have HD8:=hid hb8;have HSZ8:=hid hsz8;clear hdn hb8 hsz8 u0 u1 v0 v1 y0 y1;unfold ua;go_wp2_with fail;have HNB:=hid (show (w8.alloc (.cells #[.int .i64 0] 3)).heap[w8.heap.size]?=some (.cells #[.int .i64 0] 3 (0,0)) from ag rfl);have HCL:=hid (show Below w8.heap.size w8 (w8.alloc (.cells #[.int .i64 0] 3)) from (Below.refl _ _).alloc (Nat.le_refl _) _);have HZL:=hid (show (w8.alloc (.cells #[.int .i64 0] 3)).heap.size=w8.heap.size+1 by simp);have hup8:=HDN.out.same (W':=w8.alloc (.cells #[.int .i64 0] 3)) (fun k h1 h2=>Below.heap_alloc _ _ _ (by have:=HSZ8.out;omega));have HUP8:=hid hup8;clear hup8;go_upto_region 22 with fail
    generalize w8.alloc (.cells #[.int .i64 0] 3)=wL at *;have HA:=hid (show Below w6.heap.size w6 wL from ((HD7.out.trans (HD8.out.mono HD7.out.size))).trans (HCL.out.mono (Nat.le_trans HD7.out.size HD8.out.size)));have HAO:=hid (show Below wo.heap.size wo wL from HD6.out.trans (HA.out.mono HD6.out.size));have HAL:=hid (show Below w3.heap.size w3 wL from (HD4.out.trans (HD5.out.mono HD4.out.size)).trans (HAO.out.mono (Nat.le_trans HD4.out.size HD5.out.size)));obtain ⟨bn,hbn⟩:∃ bn,w8.heap.size=bn:=⟨_,rfl⟩;rw [hbn] at HNB;simp only [hbn];have HZ:=hid (show gs<w3.heap.size∧gm<w3.heap.size∧w3.heap.size+1<w4.heap.size∧w4.heap.size≤wo.heap.size∧wo.heap.size+2≤w7.heap.size∧bn=w7.heap.size+7∧wL.heap.size=bn+1∧w.heap.size+2<gs∧w.heap.size+2<gm from
     ⟨aj HS3.out.blk,HS3.out.book.lt,aj HQ4.out,HD5.out.size,by have:=HZ6.out;have:=HD7.out.size;omega,by have:=HSZ8.out;omega,by have:=HZL.out;omega,HG2.out.1,HG2.out.2.1⟩)
    have hsq:=oQ Fence.wide 8 (fun _=>trivial) rfl (by omega) (fun _ _ _ _ _ h=>callsIn_wide.2 h) gs gm 400 root [] [] w7.heap.size ⟨by have:=HZ.out;omega,by have:=HZ.out;omega⟩ wL HUP8.out (by have:=HZ.out;omega);have hst:Stay wL.heap.size gs gm (wL.heap.size+2) (uv true root) (uo true root) (vZ wL gs gm wo.heap.size (wo.heap.size+1) bn w7.heap.size true T UL root cs.length):=by have h1:=HZ.out;exact (Stay.cgt (by omega) (by omega) (by omega) (by omega) (by omega)).and ((Stay.sz _).and ((Stay.ch (.inl rfl) (.inr (.inl rfl)) (Nat.le_refl _) (by omega)).and ((Stay.out (F:=fun pre=>pre.map (·.1.1)) (by omega) (by omega) (by omega) (by omega)).and (Stay.pure fun pre=>∀ y ∈ pre,y.2=0))))
    have e1:uv true root=eu [] root:=by simp [uv]
    have e2:uo true root=fun k=>au (kE k true) 20 root:=by funext k;simp [uo]
    rw [e1,e2] at hst;clear e1 e2;have HST:=hid hst;clear hst
    refine gP (i:=17) (j:=18) (I:=vZ wL gs gm wo.heap.size (wo.heap.size+1) bn w7.heap.size true T UL root cs.length) (Ix:=fun _ _ _=>False) (s0:=⟨s,none,.err 0⟩)
     rfl hsq ?gs ?gm ?bb rfl HST.out.abide (fun _ _ _ _ _ _ h _ _ _=>h.elim) HST.out.sto ?sh rfl ?al HST.out.alloc ?assign ?body ?done (fun _ _ _ _ _ h _=>h.elim)
    case gs=>have:=HZ.out;omega
    case gm=>have:=HZ.out;omega
    case bb=>have:=HZ.out;omega
    case sh=> intro t pre A hi;obtain ⟨⟨p2,n,a1,-,a3,-⟩,h2,-⟩:=hi;refine ⟨a1,?_,h2⟩;have:=a3.len;rw [List.length_map] at this;have:=HUL.out;omega
    case al=> intro W hb hsz;have hd:Below w3.heap.size w3 W:=HAL.out.trans (hb.mono HAL.out.size);refine ⟨⟨ps,0,HS3.out.ch (S:=fun _=>False) (Ch.of_below hd) id id,HTS.out,⟨HT0.out,fun p hp=>by rw [HULE.out];exact List.mem_append_left _ (List.mem_map_of_mem hp),fun k hk=>absurd hk List.not_mem_nil,List.Pairwise.nil,fun t ht=>.inr rfl⟩,.inl rfl,Nat.zero_le _,Nat.zero_le _,HPL.out.2,ab HNB.out hb⟩,by omega,Ch.of_below hb,?_,fun y hy=>absurd hy List.not_mem_nil⟩;have hd2:Below w6.heap.size w6 W:=HA.out.trans (hb.mono HA.out.size);exact ⟨_,ab HBO.out hd2,HOM.out.below hd2,fun k hk=>⟨(fun e=>by cases e),.inl (by have h7:=(HOM.out.lt k hk).2;have h8:=HD7.out.size;omega)⟩⟩
    case assign=> rintro l ⟨⟨xk,xv⟩,xe⟩ W K hK;unfold fC at hK ⊢;simp at hK;gi_wp2;exact hK
    case body=>
     rintro l t pre x b W hl ⟨r,hr⟩ hi hgk hx hg hb;have HI:=hid hi;have HX:=hid hx;have HGK:=hid hgk;have HLR:=hid hr;obtain ⟨hx0,ps2,n,a1,a2,a3,a4,a5,a6,a7,a8⟩:=hi.1.x hx;have HSW:=hid a1;have HTW:=hid a2;have HCH:=hid a3;have HNX:=hid a4;have HWN:=hid (show n≤cs.length∧n≤100∧wt ps2≤600+2 * n from ⟨a5,a6,a7⟩);have HNW:=hid a8;have HCW:=hid hi.2.2.1;obtain ⟨v,h1,h2,h3⟩:=hi.2.2.2.1;obtain ⟨Ao,co,hv⟩:=Sl.len' (h2.sl aQ);rw [List.length_map] at hv;subst hv;have H1:=hid h1;have H2:=hid h2;have H3:=hid h3;have hdw:=HCW.out;have uu:=hdw.keep (ab HUU.out HAO.out) (by have:=HZ.out;omega);have vv:=hdw.keep (ab HVV.out HAO.out) (by have:=HZ.out;omega);have HUW:=hid uu;have HVW:=hid vv;have u0:=ae uu 0;have u1:=aj uu;have v0:=ae vv 0;have v1:=aj vv;obtain ⟨p0,p1,-,-,p4⟩:=ak hb;have HPB:=hid hb;obtain ⟨q,xe⟩:=x;have hx0:xe=0:=hx0;subst hx0;have HQM:=hid (jK HTW.out.srt.1 HNX.out);have HRG:=hid (show (c9 20 root q.1).run t.s=(t.s,.ok (some q.2)) by rw [HTW.out.get (by have:=HWN.out;simp;omega),lq HTW.out.srt.1 HQM.out.1]);have hpl:pre.length≤300:=by have:=a3.len;rw [List.length_map] at this;have:=HUL.out;omega
     clear hi hx hgk h1 h2 h3 hr hb uu vv hdw a1 a2 a3 a4 a5 a6 a7 a8;unfold fC;dsimp only at *;gi_wp2_with fail;refine ⟨trivial,(dq (oK HRG.out HSW.out)).mono ?_⟩;rintro e w11 ⟨rfl,hs,hc⟩;have HS11:=hid hs;have HC11:=hid hc;have hpb:=hc.keep HPB.out (by have:=HZ.out;omega);have hmb:=hc.keep H1.out (by have:=HZ.out;omega);have hyb:=hc.keep (HCW.out.keep (ab HYY.out HAO.out) (by have:=HZ.out;omega)) (by have:=HZ.out;omega);have HH1:=hid hmb;have HY1:=hid hyb;have HP1:=hid hpb;have HO1:=hid (H2.out.ch hc fun j hj e=>by have:=(H2.out.lt j hj).1;have:=HZ.out;omega);clear u0 u1 v0 v1 p0 p1 p4;obtain ⟨p0,p1,-,-,p4⟩:=ak hpb;have c0:=ae hmb 0;have c1:=aj hmb;have c2:=ac hmb 0;have y0:=ae hyb 0;have y1:=aj hyb;have h400:¬ (400:Int)<(pre.length:Int):=by omega
     clear hs hc hpb hmb hyb;gi_wp2_with fail;by_cases hp0:pre.length=0
     focus
      have hl0:decide ((0:Int)<(pre.length:Int))=false:=decide_eq_false (by omega);refine cH rfl (by kernel_rfl) (by kernel_rfl) ?_
      repeat (gi_big_quiet_step (fail))
      refine wpQuietIn_nil ?_;rintro _ ⟨nq,rfl⟩;clear hl0 hp0
     rotate_left
     focus
      have hl0:decide ((0:Int)<(pre.length:Int))=true:=decide_eq_true (by omega);have hl1:0<pre.length:=by omega
      have hlm:pre.length - 1<(pre.map (·.1.1)).length:=by rw [List.length_map];omega
      obtain ⟨g4,off4,he4,hg4,s0⟩:=(HO1.out.sl aQ).str1 hlm;generalize hmm:(pre.map (·.1.1))[pre.length - 1]=m at *;have hgl:(pre.getLast?.map fun x=>x.1.1)=some m:=by rw [← hmm,List.getLast?_eq_getElem?,List.getElem?_eq_getElem (by omega),List.getElem_map];rfl
      have hbh:=HQM.out.2.1;rw [hgl] at hbh;have hls:Op.bytesLess (ap m).toList (ap q.1).toList=!true:=by rw [aL,aL];show aU m q.1=!true;exact aG hbh
      have hkq:=jR (a:=m) (b:=q.1);rw [decide_eq_false (show ¬ m=q.1 from fun e=>by rw [e] at hbh;have h9:=nI true q.1;rw [show qS true (some q.1) q.1=qT true q.1 q.1 from rfl,h9] at hbh;cases hbh)] at hkq;have hkq2:¬ (ap m).toList=(ap q.1).toList:=by simpa using hkq
      subst he4;have hi2:IntKind.i64.wrap ((pre.length:Int) - 1)=((pre.length - 1:Nat):Int):=by rw [IntWalk.i64_in _ (by omega)];omega
      have hi3:((pre.length - 1:Nat):Int)<(pre.length:Int):=by omega
      have hi4:(0:Int)≤((pre.length - 1:Nat):Int):=by omega
      clear hgl hbh hmm hlm;refine cH rfl (by kernel_rfl) (by kernel_rfl) ?_
      repeat (gi_big_quiet_step (fail))
      refine wpQuietIn_nil ?_;rintro _ ⟨nq,rfl⟩;clear hls hkq hkq2 s0 hi2 hi3 hi4 hl0 hl1 hg4 hp0
     all_goals
      gi_wp2_with (gi_at_builtin;refine Hid.out ?_);refine hid ?_;have hoa:=(show Own sC 1 9 wo.heap.size (w11.drewN nq) (.slice _ pre.length co) (pre.map (·.1.1)) from HO1.out).alloc (.cells #[.string (ap q.1)] 9);have HBW:=hid (show Below w11.heap.size w11 ((w11.drewN nq).alloc (.cells #[.string (ap q.1)] 9)) from (show Below w11.heap.size w11 (w11.drewN nq) from ⟨rfl,rfl,rfl,Nat.le_refl _,fun _ _=>rfl⟩).alloc (Nat.le_refl _) _);refine fd (ys:=[q.1]) rfl rfl gI rfl rfl hoa (Sl.one (q.1:By) (by simp) aQ rfl) (by simp [maxLen];omega) (by simp;omega) (by have:=HBW.out.size;have:=HC11.out.size;have:=HI.out.2.1;have:=HZ.out;omega) ?_;intro v' w12 ho hgr hat;obtain ⟨Av,cv,hvv⟩:=Sl.len' (ho.sl aQ);rw [show (pre.map (·.1.1) ++ [q.1]).length=pre.length+1 by simp] at hvv;subst hvv;have h7:=OutB.at7 HH1.out HO1.out HBW.out hgr (by decide);have f0:=ae h7 0;have f1:=aj h7;have f2:=ac h7 0;have HPU:=hid (OutB.push (s:=t) HH1.out HO1.out H3.out HBW.out (by have:=HC11.out.size;have:=HI.out.2.1;have:=HZ.out;omega) ho hgr hat (fun g e=>Nat.lt_of_lt_of_le (HGK.out g e).2 HC11.out.size) (by decide));clear hoa ho hgr hat h7 c0 c1 c2 p0 p1 p4 y0 y1;gi_upto_region 31 with fail
      generalize w12.setCell ⟨wo.heap.size+1,0,none⟩ (.slice Av (pre.length+1) cv)=w13 at *;clear f0 f1 f2
      have HNP:=hid (show ∀ j ty cur,w11.heap[j]?=some (.cells cur ty (0,0))→9≠ty→j≠wo.heap.size+1→w13.heap[j]?=some (.cells cur ty (0,0)) from fun j ty cur hj hne hjb=>HPU.out.2.keep hj (by
       rintro (e | ⟨-,-,-,cur2,e⟩)
       ·exact hjb e
       ·rw [hj] at e;injection e with e
        injection e with _ e _
        exact hne e.symm))
      have HN13:=hid (HNP.out _ _ _ (HC11.out.keep HNW.out (by have:=HZ.out;omega)) (by decide) (by have:=HZ.out;omega));have HU13:=hid (HNP.out _ _ _ (HC11.out.keep HUW.out (by have:=HZ.out;omega)) (by decide) (by have:=HZ.out;omega));have HV13:=hid (HNP.out _ _ _ (HC11.out.keep HVW.out (by have:=HZ.out;omega)) (by decide) (by have:=HZ.out;omega));have HX13:=hid (HNP.out _ _ _ (HC11.out.keep (HCW.out.keep (ab HX3.out HAL.out) (by have:=HZ.out;omega)) (by have:=HZ.out;omega)) (by decide) (by have:=HZ.out;omega));have HS13:=hid (HS11.out.ch HPU.out.2 (by rintro (e | ⟨e,-⟩) <;> (have:=HZ.out;omega)) (by rintro (e | ⟨e,-⟩) <;> (have:=HZ.out;omega)));have HB13:=hid (show Below w.heap.size w w13 from (HB3.out.trans (HAL.out.mono HB3.out.size)).trans (((HCW.out.mono (S':=fun j=>w.heap.size≤j) fun j _ e=>by have:=HZ.out;omega).trans ((HC11.out.mono fun j _ e=>by have:=HZ.out;omega).trans (HPU.out.2.mono fun j _ e=>by have:=HZ.out;rcases e with e | ⟨e,-⟩ <;> omega))).below (by have:=HB3.out.size;have:=HAL.out.size;omega) (fun j e=>e)));have HC3:=hid (show Chg true T UL ps2 (pre.map (·.1.1) ++ [q.1]) from HCH.out.next HTW.out.srt.1 (by rw [List.getLast?_map];exact HNX.out));gi_wp2_with fail;gi_loopw [22] (fun s22 wr=>∃ (k:Nat) (ps3:List Pr) (n3:Nat) (s3:Sf),k≤2∧s22=.int .i64 k∧ShIs wr gs gm s3∧TS s3 root ps3 []∧Chg true T UL ps3 (pre.map (·.1.1) ++ [q.1])∧n3≤cs.length∧n3≤100∧wt ps3≤600+2 * n3∧wr.heap[bn]?=some (.cells #[.int .i64 (n3:Nat)] 3 (0,0))∧Ch (fun j=>j=gs∨j=gm∨j=bn) w13 wr) (fun s22 _=>2 - (intOf s22).toNat)
      case atStart=>exact ⟨0,ps2,n,t.s,by omega,rfl,HS13.out,HTW.out,HC3.out,HWN.out.1,HWN.out.2.1,HWN.out.2.2,HN13.out,Ch.refl _ _⟩
      case round=>
       clear HC3;obtain ⟨k,ps3,n3,s3,hk,rfl,hs3,ht3,hc3,hn3,hn100,hw3,hnb,hch⟩:=hrel;have HS3R:=hid hs3;have HT3R:=hid ht3;have HCR3:=hid hc3;have HWR:=hid (And.intro hn3 (And.intro hn100 hw3));have HNR:=hid hnb;have HCR:=hid hch;have n0:=ae hnb 0;have n1:=aj hnb;have n2:=ac hnb 0;have hxr:=hch.keep HX13.out (by have:=HZ.out;omega);have hur:=hch.keep HU13.out (by have:=HZ.out;omega);have hvr:=hch.keep HV13.out (by have:=HZ.out;omega);have x0:=ae hxr 0;have x1:=aj hxr;have HUR:=hid hur;have HVR:=hid hvr;clear hs3 ht3 hc3 hw3 hnb hch hxr hur hvr;by_cases hgo:k<2∧n3<cs.length∧n3<100
       ·obtain ⟨hk2,hnc,hnh⟩:=hgo;have hk3:(k:Int)<2:=by omega
        have hnc1:(n3:Int)<(cs.length:Int):=by omega
        have hnh1:(n3:Int)<100:=by omega
        have hn0:(0:Int)≤(n3:Int):=by omega
        have hnw:IntKind.i64.wrap ((n3:Int)+1)=((n3+1:Nat):Int):=by rw [IntWalk.i64_in _ (by omega)];rfl
        have hbwr:Below w.heap.size w wr:=HB13.out.trans ((HCR.out.mono (S':=fun j=>w.heap.size≤j) fun j _ e=>by have:=HZ.out;omega).below HB13.out.size (fun j e=>e));obtain ⟨bc,offc,rfl,hbcl,d0,d1⟩:=(HCS.out.keep hbwr).cg hnc;have HTN3:=hid (HTN.out n3 hnc hnh);have HUM3:=hid (HUM.out n3 hnc hnh);generalize cs[n3]=c at *;obtain ⟨ck,cb⟩:=c;dsimp only at d0 d1 HTN3 HUM3;have hwb:bn<wr.heap.size:=n1;have hca:Ch (fun j=>j=bn) wr ((wr.setCell ⟨bn,0,none⟩ (.int .i64 ((n3:Int)+1))).alloc (.cells #[.string (ap ck),.bool cb] 84)):=((Ch.refl (fun j=>j=bn) wr).setCell (p:=⟨bn,0,none⟩) rfl _).alloc _;have HCA:=hid hca;have HCC:=hid (show ((wr.setCell ⟨bn,0,none⟩ (.int .i64 ((n3:Int)+1))).alloc (.cells #[.string (ap ck),.bool cb] 84)).heap[wr.heap.size]?=some (.cells #[.string (ap ck),.bool cb] 84 (0,0)) from
         ag (by simp))
        have HN21:=hid (show ((wr.setCell ⟨bn,0,none⟩ (.int .i64 ((n3:Int)+1))).alloc (.cells #[.string (ap ck),.bool cb] 84)).heap[bn]?=some (.cells #[.int .i64 ((n3+1:Nat):Int)] 3 (0,0)) from ai (jv HNR.out _) _);clear hca;gi_upto_region 36 with fail
        generalize (wr.setCell ⟨bn,0,none⟩ (.int .i64 ((n3:Int)+1))).alloc (.cells #[.string (ap ck),.bool cb] 84)=w21 at *;generalize wr.heap.size=gc at *;have HS21:=hid (HS3R.out.ch HCA.out (by have:=HZ.out;omega) (by have:=HZ.out;omega));have HC21:=hid (HCR.out.trans (HCA.out.mono fun _ _ e=>.inr (.inr e)));have hu21:=HCA.out.keep HUR.out (by have:=HZ.out;omega);have hv21:=HCA.out.keep HVR.out (by have:=HZ.out;omega);clear x0 x1 n0 n1 n2 d0 d1 hbcl;have u0:=ae hu21 0;have u1:=aj hu21;have v0:=ae hv21 0;have v1:=aj hv21;have b0:=ae HCC.out 0;have b1:=ae HCC.out 1;have b2:=aj HCC.out;clear hu21 hv21;have hsz:(ap ck).size=ck.length:=aC ck;by_cases hlen:64<ck.length
        ·have hg1:(64:Int)<((ap ck).size:Int):=by omega
         gi_wp2_with fail;go_roundw
         case rel=>exact ⟨k+1,ps3,n3+1,s3,by omega,by go_num,HS21.out,HT3R.out,HCR3.out,by omega,by omega,(by have:=HWR.out;omega),HN21.out,HC21.out⟩
         case measure=>simp [intOf];omega
        ·have hg1:¬ (64:Int)<((ap ck).size:Int):=by omega
         cases cb
         ·obtain ⟨s',r1,r2,-⟩:=HT3R.out.put (by have:=HWR.out;simp;omega) (k:=ck) (v:=[110,101,119]) (by omega) (by decide);have HR1:=hid r1;have HR2:=hid r2;clear r1 r2;gi_wp2_with fail;refine ⟨trivial,(dq (jF HR1.out HS21.out)).mono ?_⟩;rintro e w22 ⟨rfl,hs,hc⟩;have hn22:=hc.keep HN21.out (by have:=HZ.out;omega);have HWP:=hid (show wt (putP ps3 ck [110,101,119])≤600+2 * (n3+1) by
           have h1:=po ps3 ck [110,101,119];have h2:=p7 (v:=[110,101,119]) (n:=3) (by decide);have h3:chn [110,101,119]=0:=by decide +kernel
           have:=HWR.out;omega)
          gi_wp2_with fail;go_roundw
          case rel=>exact ⟨k+1,putP ps3 ck [110,101,119],n3+1,s',by omega,by go_num,hs,HR2.out,(HCR3.out.put HUM3.out),by omega,by omega,HWP.out,hn22,HC21.out.trans (hc.mono fun _ _ e=>e.elim .inl (fun e=>.inr (.inl e)))⟩
          case measure=>simp [intOf];omega
         ·obtain ⟨s',r1,r2,-⟩:=HT3R.out.del (by have:=HWR.out;simp;omega) ck;have HR1:=hid r1;have HR2:=hid r2;clear r1 r2;gi_wp2_with fail;refine ⟨trivial,(dq (tj HR1.out HS21.out)).mono ?_⟩;rintro e w22 ⟨rfl,hs,hc⟩;have hn22:=hc.keep HN21.out (by have:=HZ.out;omega);have HWP:=hid (show wt (fD ps3 ck)≤600+2 * (n3+1) by
           have h1:=r8 ps3 ck;have:=HWR.out;omega)
          gi_wp2_with fail;go_roundw
          case rel=>exact ⟨k+1,fD ps3 ck,n3+1,s',by omega,by go_num,hs,HR2.out,(HCR3.out.del HTN3.out),by omega,by omega,HWP.out,hn22,HC21.out.trans (hc.mono fun _ _ e=>e.elim .inl (fun e=>.inr (.inl e)))⟩
          case measure=>simp [intOf];omega
       ·rcases (show ¬ (k:Int)<2∨((k:Int)<2∧¬ (n3:Int)<(cs.length:Int))∨((k:Int)<2∧(n3:Int)<(cs.length:Int)∧¬ (n3:Int)<100) by omega) with hk3 | ⟨hk3,hnc1⟩ | ⟨hk3,hnc1,hnh1⟩
        all_goals
         clear hgo;gi_wp2_with fail;have hz:=HZ.out;have hsw:=HI.out.2.1
         have hcF:Ch (fun j=>PushS 9 wo.heap.size (wo.heap.size+1) w7.heap.size t w11 j∨j=gs∨j=gm∨j=bn) W wr:=
          ((HC11.out.mono fun _ _ e=>e.elim (fun e=>.inr (.inl e)) (fun e=>.inr (.inr (.inl e)))).trans (HPU.out.2.mono fun _ _ e=>.inl e)).trans (HCR.out.mono fun _ _ e=>.inr e)
         have hob:OutB sC 1 9 22 wo.heap.size (wo.heap.size+1) w7.heap.size t (pre.map (·.1.1) ++ [q.1]) wr:=HPU.out.1.ch HCR.out (by omega) (fun j h1 h2 h3 h4 h5=>by
          obtain ⟨cur,hcur⟩:=h5;rintro (e | e | e)
          ·omega
          ·omega
          ·subst e;rw [HN13.out] at hcur;injection hcur with e
           injection e with _ e _
           exact absurd e (by decide))
         refine ⟨gV hcF ?_,⟨s3,t.g,.err 0⟩,⟨rfl,hcF.size,fun j hj hjl=>hcF.block j hjl ?_⟩,⟨ps3,n3,HS3R.out,HT3R.out,?_,.inl rfl,HWR.out.1,HWR.out.2.1,HWR.out.2.2,HNR.out⟩,Nat.le_trans hsw hcF.size,HCW.out.trans (hcF.mono fun j _ e=>?_),?_,fun y hy=>?_⟩
         ·rintro j o hbj e ho;rcases e with (e | ⟨-,-,-,cur,e⟩) | e | e | e
          ·subst e;rw [H1.out] at ho;injection ho with ho;subst ho;rfl
          ·rw [HC11.out.block j (aj ho) (by omega)] at e;rw [e] at ho;injection ho with ho;subst ho;rfl
          ·omega
          ·omega
          ·subst e;rw [HNW.out] at ho;injection ho with ho;subst ho;rfl
         ·rintro ((e | ⟨e1,e2,e3,-⟩) | e | e | e)
          all_goals
           rcases hj with hj | hj
           ·omega
           ·first
             | exact e2 hj
             | (have:=(HGK.out _ hj).1;omega)
         ·rw [List.map_append];exact HCR3.out
         ·rcases e with (e | ⟨e,-⟩) | e | e | e
          ·exact .inr (.inr (by omega))
          ·exact .inr (.inr e)
          ·exact .inl e
          ·exact .inr (.inl e)
          ·exact .inr (.inr (by omega))
         ·rw [List.map_append];exact hob
         ·rcases List.mem_append.1 hy with hy | hy
          ·exact HI.out.2.2.2.2 y hy
          ·rw [List.mem_singleton.1 hy]
    case done=>
     rintro D t xs W hD hgk he hi hk;obtain ⟨⟨ps2,n,-,-,a3,a4,-⟩,-,h3,⟨v,h4,h5,-⟩,h6⟩:=hi
     have hnx:jL true ps2 (xs.getLast?.map fun x=>x.1.1)=none:=by
      rcases he with he | ⟨p,he,hw⟩ | ⟨pr2,e,he,hne⟩
      ·rcases a4 with a4 | a4
       ·rw [he] at a4;cases a4
       ·rw [he] at a4;injection a4 with a4;exact a4.symm
      ·exfalso
       first
       | exact absurd (show true=false from hw) (by decide)
       | (have hw2:(!aU p.1 [])=false:=hw
          rw [gA] at hw2;cases hw2)
      ·exact absurd (h6 (([],[]),e) (by rw [he];simp)) hne
     have HML:=hid (show (xs.map fun x=>x.1.1).length≤300 by have:=a3.len;rw [List.length_map] at this ⊢;have:=HUL.out;omega);have HEND:=hid (a3.end (by rw [List.getLast?_map];exact hnx));have HKD:=hid hk;have HCW:=hid h3;have HOT:=hid (((HO5.out.below HAO.out).ch h3 fun j hj e=>by have:=HO5.out.lt j hj;have:=HZ.out;omega).sl aQ);have HOX:=hid (h5.sl aQ);generalize xs.map (fun x=>x.1.1)=met at *;obtain ⟨Ao,co,hv⟩:=Sl.len' HOX.out;subst hv;have HMB:=hid h4;have HRW:=hid (h3.keep (ab HR3.out HAL.out) (by have:=HZ.out;omega));have HDD:=hid (show wL.heap.size≤D∧D<W.heap.size from ⟨hD,aj hk⟩);have HBW:=hid (show Below w.heap.size w W from (HB3.out.trans (HAL.out.mono HB3.out.size)).trans ((h3.mono (S':=fun j=>w.heap.size≤j) fun j _ e=>by have:=HZ.out;omega).below (by have:=HB3.out.size;have:=HAL.out.size;omega) (fun j e=>e)));clear hk hgk he h3 h4 h5 h6 hnx a3 a4 hD;go_wp2_with fail;go_loopw [26] (fun s26 wr=>∃ i:Nat,i≤T.length∧s26=.int .i64 i∧Below W.heap.size W wr) (fun s26 _=>T.length - (intOf s26).toNat)
     case atStart=>exact ⟨0,Nat.zero_le _,rfl,Below.refl _ _⟩
     case round=>
      obtain ⟨i,hi,rfl,hb⟩:=hrel;have HD9:=hid hb;clear hb;have htl:T.length≤200:=HSL.out;have hml:met.length≤300:=HML.out;by_cases hlt:i<T.length
      ·have hi1:(i:Int)<(T.length:Int):=by omega
       have hi0:(0:Int)≤(i:Int):=by omega
       have HLI:=hid hlt;have HEI:=hid (HEND.out T[i] (List.getElem_mem hlt));obtain ⟨g4,off4,he4,hg4,s0⟩:=HOT.out.str1 hlt;subst he4;have HG4:=hid hg4;have HS0:=hid s0;generalize T[i]=x at *;clear hg4 s0 hlt;go_wp2_with fail;go_loopw [27,28] (fun s27 s28 wr=>∃ k:Nat,k≤met.length∧s28=.int .i64 k∧s27=.bool ((met.take k).any fun m=>decide (m=x))∧Below W.heap.size W wr) (fun _ s28 _=>met.length - (intOf s28).toNat)
       case atStart=>exact ⟨0,Nat.zero_le _,rfl,rfl,HD9.out⟩
       case round=>
        obtain ⟨k,hk,rfl,rfl,hb⟩:=hrel;have HDA:=hid hb;have c0:=ae (ab HMB.out hb) 0;have c1:=aj (ab HMB.out hb);have s0:=(hb.cell HG4.out).trans HS0.out;have s1:=Nat.lt_of_lt_of_le HG4.out hb.size;clear hb;generalize hub:((met.take k).any fun m=>decide (m=x))=ub at *;by_cases hlk:k<met.length
        ·have hk1:(k:Int)<(met.length:Int):=by omega
         have hk0:(0:Int)≤(k:Int):=by omega
         have HUK:=hid (show ((met.take (k+1)).any fun m=>decide (m=x))=(ub || decide (met[k]=x)) by rw [List.take_succ_eq_append_getElem hlk,List.any_append,hub];simp);clear hub;cases ub
         ·obtain ⟨g5,off5,he5,hg5,t0⟩:=(HOX.out.keep HDA.out).str1 hlk;subst he5;have hkq:=jR (a:=met[k]) (b:=x);generalize met[k]=m at *;by_cases hcp:m=x
          ·rw [decide_eq_true hcp] at hkq HUK;have hkq2:(ap m).toList=(ap x).toList:=by rw [hcp]
           clear hcp;go_wp2_with fail;go_quiet (fail);go_wp2_with fail;go_roundw
           case rel=>exact ⟨k+1,by omega,by go_num,by rw [HUK.out];rfl,HDA.out.trans ⟨rfl,rfl,rfl,Nat.le_refl _,fun _ _=>rfl⟩⟩
           case measure=>simp [intOf];omega
          ·rw [decide_eq_false hcp] at hkq HUK;have hkq2:¬ (ap m).toList=(ap x).toList:=by simpa using hkq
           clear hcp;go_wp2_with fail;go_quiet (fail);go_wp2_with fail;go_roundw
           case rel=>exact ⟨k+1,by omega,by go_num,by rw [HUK.out];rfl,HDA.out.trans ⟨rfl,rfl,rfl,Nat.le_refl _,fun _ _=>rfl⟩⟩
           case measure=>simp [intOf];omega
         ·go_wp2_with fail;go_quiet (fail);go_wp2_with fail;go_roundw
          case rel=>exact ⟨k+1,by omega,by go_num,by rw [HUK.out];rfl,HDA.out.trans ⟨rfl,rfl,rfl,Nat.le_refl _,fun _ _=>rfl⟩⟩
          case measure=>simp [intOf];omega
        ·obtain rfl:ub=true:=by rw [← hub,List.take_of_length_le (by omega)];exact List.any_eq_true.2 ⟨x,HEI.out,decide_eq_true rfl⟩
         clear hub;go_wp2_with fail;go_roundw
         case rel=>exact ⟨i+1,HLI.out,by go_num,HDA.out⟩
         case measure=>have:=HLI.out;simp [intOf];omega
      ·obtain rfl:i=T.length:=by omega
       clear hlt hi;have hx0:=ab HRW.out HD9.out;have HX0:=hid hx0;have r0:=ae hx0 0;have r1:=aj hx0;have r2:=ac hx0 0;clear hx0;go_wp2_with fail;have hc1:=(Ch.refl (fun j=>j=w.heap.size+1+1) wr).setCell (p:=⟨w.heap.size+1+1,0,none⟩) rfl (.bool true);have hk3:=hc1.keep (ab HKD.out HD9.out) (by have:=HZ.out;have:=HDD.out;omega);have hc2:=bR (wr.setCell ⟨w.heap.size+1+1,0,none⟩ (.bool true)) D (.deferred none);have hz:=ae (hc2.keep (jv HX0.out (.bool true)) (by have:=HZ.out;have:=HDD.out;omega)) 0;have hb:=(hc1.mono (S':=fun j=>w.heap.size≤j) (fun j _ e=>by omega)).trans (hc2.mono (fun j _ e=>by have:=HZ.out;have:=HDD.out;omega));have hbr:=HBW.out.trans (HD9.out.mono HBW.out.size);exact jz (v:=.bool true) hk3 (by simp [results,Tryz.results12,go_sem,hz]) ⟨rfl,hbr.trans (hb.below hbr.size (fun j h=>h))⟩
end Go.Proofs.YtknioodagnjchaaGreatDoor
namespace Go.Proofs.YtknioodagnjchaaGreatDoor
open Go.ChangeShapes Go.WideShapes Go.ChangeAt Go.RowKit Go.Deep Go.Joins
theorem mP:Tryz.prog.cellsOf 84=2:=by kernel_rfl
theorem vx {H:Type} {enc:TypeId × Value→H} {w:World} {n:Nat} {cs:List Value} {z:DataW H × List MemPlace} (h:DataW.trod enc Tryz.prog w 0 (fun _=>true) true n 84 cs=some z):∃ x:Cg,vH x=cs∧x.1.length≤maxLen:=by
 obtain ⟨ys,n',-,-,hl,hyl,hg⟩:=DataW.trod_struct Tryz.underlying84 h;rw [mP] at hl
 match cs,hl with
 | [c0,c1],_=>
   match ys,hyl with
   | [y0,y1],_=> have g0:=hg 0 _ rfl;have g1:=hg 1 _ rfl;simp only [mN,p8,List.drop_zero,List.drop_succ_cons,List.take_succ_cons,List.take_zero,List.getElem?_cons_zero,List.getElem?_cons_succ,List.getElem_toArray,List.getElem_cons_zero,List.getElem_cons_succ] at g0 g1;obtain ⟨q0,e0,-,w0⟩:=DataW.trod_string Tryz.underlying9 g0;obtain ⟨q1,e1,-⟩:=DataW.trod_bool Tryz.underlying4 g1;simp at e0 e1;subst e0 e1;exact ⟨(bs q0,q1),rfl,w0⟩
theorem nj {H:Type} {enc:TypeId × Value→H} {w:World} {v:Value} {d:DataW H} {p:List MemPlace} (hv:∃ a len cap,v=.slice a len cap) (h:DataW.Trod enc Tryz.prog w 0 (fun _=>true) true 82 v d p) (hlt:∀ x ∈ p,x.block<w.heap.size):
  ∃ xs:List Cg,Sl vH 2 w v xs∧∀ x ∈ xs,x.1.length≤maxLen:=by
 obtain ⟨a0,len0,cap0,rfl⟩:=hv;obtain ⟨fuel,hf⟩:=h;obtain ⟨v1,xs1,e1,hs1,hq1⟩:=iB (f:=vH) (size:=2) (Q:=fun x=>x.1.length≤maxLen) Tryz.underlying82 mP (by omega) uD (fun n cs' z hz _=>vx hz) hf hlt;simp [Value.cells] at e1;subst e1;exact ⟨xs1,hs1,hq1⟩
end Go.Proofs.YtknioodagnjchaaGreatDoor
