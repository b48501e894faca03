/- journal: restore. journal: Back. pager: undo, fail, Rollback. pager: fail, Rollback; Commit where the head is not fit. -/
import Derived.Test.YtdmhbgpejppbkaaGreatXGbq
import Derived.Test.YtdmhbgpejppbkaaGreatXGbm
import Derived.Test.YtdmhbgpejppbkaaGreatXGbj
import Derived.Test.YtdmhbgpejppbkaaGreatXGbp
import Derived.Test.YtdmhbgpejppbkaaGreatXGax
import Derived.Test.YtdmhbgpejppbkaaGreatXGbk
import Derived.RangeFuncNested
set_option maxRecDepth 100000
set_option maxHeartbeats 4000000
namespace Go.Proofs.YtdmhbgpejppbkaaGreat
open Go.Lib (hid)
open Go.RowKit Go.Maps Go.Shelf
attribute [local go_sem] Oper.semAt_some
def dN (l:List Pg):List (Int × By):=l.foldl (fun K p=>aX K p.n (bs p.s)) []
theorem jN (l:List Pg) (p:Pg):dN (l ++ [p])=aX (dN l) p.n (bs p.s):=by unfold dN;rw [List.foldl_append];rfl
theorem lQ (l:List Pg):(dN l).length≤l.length:=by refine cM (p:=fun l=>(dN l).length≤l.length) (Nat.le_refl _) (fun l x h=>?_) l;rw [jN,List.length_append,List.length_singleton];exact Nat.le_trans eR (Nat.succ_le_succ h)
def Dk.puts (d:Dk) (K:List (Int × By)) (l:List Int):Dk:=l.foldl (fun d n=>d.put n.toNat ((aC K n).getD [])) d
theorem yk (d:Dk) (K:List (Int × By)) (l:List Int) {j:Nat} (h:j<l.length):d.puts K (l.take (j+1))=(d.puts K (l.take j)).put (l[j]).toNat ((aC K l[j]).getD []):=by unfold Dk.puts;rw [List.take_succ_eq_append_getElem h,List.foldl_append];rfl
def Dk.again (d:Dk) (pages:Nat) (K:List (Int × By)):Dk:=(bz (d.puts K (bF (K.map (·.1)))) pages).setF aA Fi.settle
structure CanAgain (d:Dk) (pages:Nat) (K:List (Int × By)):Prop where
 put:∀ (j:Nat) (n:Int),(bF (K.map (·.1)))[j]?=some n→0≤n∧n<4096∧((aC K n).getD []).length=232∧(d.puts K ((bF (K.map (·.1))).take j)).Fine∧(d.puts K ((bF (K.map (·.1))).take j)).Can aA n.toNat
 fine:(d.puts K (bF (K.map (·.1)))).Fine
 file:∃ f,(d.puts K (bF (K.map (·.1)))).file aA=some f
def mG (g:Nat):Obj:=.cells #[.map (some g)] 102 (0,0)
def zD (A:Option Addr) (n c:Nat):Obj:=.cells #[.slice A n c] 135 (0,0)
def RsI (zs:List Pg) (w1:World) (pre:List (Fin zs.length)) (W:World):Prop:=fu W w1.heap.size (dN (pre.map fun i=>zs[i.1]'i.2))∧W.heap[w1.heap.size+1]?=some (mG w1.heap.size)∧Below w1.heap.size w1 W∧w1.heap.size+3≤W.heap.size
theorem RsI.own {zs:List Pg} {w1:World} {B:Nat} (hB:w1.heap.size+2≤B):OwnFrom B (RsI zs w1):=fun pre W W' row h hg hr=>by
 obtain ⟨h3,h4,h5,h6⟩:=h;have hc:Ch (fun j=>B≤j) W W':=Ch.of_grown hg fun j hj=>(hr j hj).1
 exact ⟨h3.ch hc (by omega),hc.keep h4 (by omega),h5.trans (hc.below (B:=w1.heap.size) (by have:=h5.size;omega) fun j hj=>by omega),Nat.le_trans h6 hc.size⟩
theorem oT (pages:Nat) (zs:List Pg) (v:Value) (w1:World) {base:Nat} {D:DkM} {d:Dk} (h:DkIs w1 D d) (hv:Own Pg.cells 2 134 base w1 v zs) (hvD:∀ k,v.ownBlock=some k→¬ D.F k) (hl:zs.length≤1000) (hok:∀ p ∈ zs,gE p.n) (hc:CanAgain d pages (dN zs.reverse)):
  Calls Tryz.prog 150 #[ai D.gd,.int .i64 pages,v] w1 fun e w'=>e=.returned (.int .i64 0)∧DkTo w1 D (d.again pages (dN zs.reverse)) w':=by
 obtain ⟨A,c,rfl,hcc⟩:=aD hv;have HH:=hid h;have HC:=hid hc;have HV:=hid hv;have hmm:=@run_makeMap Tryz.prog;unfold ai at *;refine (callsIn_wide (n:=7)).1 (callsIn_of_wp_marks Tryz.func150 rfl trivial ?_ rfl);simp only [Tryz.ntmps150,List.size_toArray,List.length_cons,List.length_nil,Nat.reduceAdd,Nat.reduceSub,Array.replicate_succ,Array.replicate_zero,List.push_toArray,List.append_toArray,List.nil_append,List.cons_append];refine wpIn_wide.2 ?_;clear h hc hv;go_wp2_with fail;refine (yY _ _ ⟨_,_,_,rfl⟩).mono ?_;rintro e w2 ⟨rfl,rfl⟩;go_wp2_with fail;have HBB:=hid (show Below w1.heap.size w1 (((w1.alloc (.map #[] 0)).alloc (mG w1.heap.size)).alloc (zD A zs.length c)) from (((Below.refl _ w1).alloc (Nat.le_refl _) _).alloc (by simp) _).alloc (by simp;omega) _);have hsB:(((w1.alloc (.map #[] 0)).alloc (mG w1.heap.size)).alloc (zD A zs.length c)).heap.size=w1.heap.size+3:=by simp
 have hm0:fu (((w1.alloc (.map #[] 0)).alloc (mG w1.heap.size)).alloc (zD A zs.length c)) w1.heap.size []:=((MpIs.made w1).ch (S:=fun _=>False) (Ch.alloc (Ch.refl _ _) _) id).ch (S:=fun _=>False) (Ch.alloc (Ch.refl _ _) _) id;have hi0:(((w1.alloc (.map #[] 0)).alloc (mG w1.heap.size)).alloc (zD A zs.length c)).heap[w1.heap.size+1]?=some (mG w1.heap.size):=ar (af (by simp)) _;have hx0:(((w1.alloc (.map #[] 0)).alloc (mG w1.heap.size)).alloc (zD A zs.length c)).heap[w1.heap.size+2]?=some (zD A zs.length c):=af (by simp);change Code.wp _ _ _ _ (((w1.alloc (.map #[] 0)).alloc (mG w1.heap.size)).alloc (zD A zs.length c));generalize ((w1.alloc (.map #[] 0)).alloc (mG w1.heap.size)).alloc (zD A zs.length c)=wB at *;obtain ⟨b,off,hA0,hb0,hrow⟩:∃ b off,(zs≠[]→A=some ⟨b,off,none⟩)∧(zs≠[]→b<w1.heap.size)∧∀ (i:Nat) (hi:i<zs.length) (j:Nat) (u:Value),(Pg.cells zs[i])[j]?=some u→w1.cell? ⟨b,off+i * 2+j,none⟩=some u:=by
  by_cases e:zs=[]
  ·exact ⟨0,0,fun h=>(h e).elim,fun h=>(h e).elim,fun i hi=>by rw [e] at hi;cases hi⟩
  ·have hpos:0<zs.length:=List.length_pos_iff.2 e;have hsl:=HV.out.sl Pg.len;obtain ⟨b,off,c',he,hb,-⟩:=hsl.at1 hpos;injection he with he1
   refine ⟨b,off,fun _=>he1,fun _=>hb,fun i hi j u hu=>?_⟩;obtain ⟨b2,off2,c2,he2,-,h2⟩:=hsl.at1 hi;injection he2 with he3
   rw [he1] at he3;injection he3 with he3
   injection he3 with e1 e2
   rw [e1,e2];exact h2 j u hu
 have HS:=hid (show SeqStopsK Fence.wide 5 Tryz.prog 249 #[.pointer (some ⟨w1.heap.size+2,0,none⟩)] (BI zs) (BwK w1.heap.size (w1.heap.size+2)) (fun ys=>ys=mK zs.length zs.length (Nat.le_refl _)) (fun _=>True) zs.length wB from
  vj Fence.wide 5 trivial rfl (by omega) A (w1.heap.size+2) w1.heap.size b off c zs hA0 hl wB hb0 (by omega) hx0 (fun i hi j u hu=>(HBB.out.cell (p:=⟨b,off+i * 2+j,none⟩) (hb0 (fun e=>by rw [e] at hi;cases hi))).trans (hrow i hi j u hu)))
 have HWB:=hid (And.intro hsB (And.intro hm0 (And.intro hi0 hx0)));have HOK:=hid hok;clear hsB hm0 hi0 hx0 hrow hA0 hb0 hmm hok;obtain ⟨act,hact⟩:∃ act:Fin zs.length→Nat→Act,act=(fun (x:Fin zs.length) (gs:Nat)=>({ tmps:=#[.pointer (some ⟨D.gd,0,none⟩),.int .i64 pages,.slice A zs.length c,undef,undef,undef,.int .i64 0,.pointer (some ⟨w1.heap.size+1,0,none⟩),undef,.pointer (some ⟨gs,0,none⟩),undef,undef,undef,undef,undef,undef,.map (some w1.heap.size),.slice A zs.length c,.func (.func 249) #[] #[.pointer (some ⟨w1.heap.size+2,0,none⟩)],.int .i64 x.1,pS (zs[x.1]'x.2),undef,undef,undef,undef,undef,undef,undef,undef,undef,undef,undef,undef,undef,undef,undef,undef,undef,undef,undef,undef,undef,undef,undef,undef,undef,undef,undef,undef,undef,undef,undef,undef,undef,undef,undef,undef,undef,undef,undef,undef,undef,undef,undef,undef,undef,undef,undef,undef],defers:=[] }:Act)):=⟨_,rfl⟩;have HACT:=hid hact;clear hact;refine (wpIn_wide (n:=6)).1 ?_
 refine wpIn_rangeFunc_ownH rfl (by omega) (gf:=249) (lb:=#[.pointer (some ⟨w1.heap.size+2,0,none⟩)]) rfl trivial (enters_of Tryz.func249 (by kernel_rfl) rfl)
  HS.out BwK.trans (BwK.put (by have:=HWB.out.1;omega)) (Below.refl _ _) (fun _=>rfl)
  (RsI zs w1) (fun _ _ _=>False) (RsI.own (by have:=HWB.out.1;omega)) (fun _ _ _ _ _ hs _ _=>hs) ⟨HWB.out.2.1,HWB.out.2.2.1,HBB.out,by rw [HWB.out.1];exact Nat.le_refl _⟩
  (fun x a' W=>∃ gs,a'=act x gs∧wB.heap.size≤gs∧W.heap[gs]?=some (bj (zs[x.1]'x.2))) ?ax ?assign ?body ?done ?stop
 case assign=>
  intro l pre x W K hI hK;unfold BI pS;have hWs:wB.heap.size≤W.heap.size:=by have:=hI.2.2.2;have:=HWB.out.1;omega
  have HAL:=hid (show Below W.heap.size W (W.alloc (bj (zs[x.1]'x.2))) from (Below.refl _ W).alloc (Nat.le_refl _) _);have HNW:=hid (show (W.alloc (bj (zs[x.1]'x.2))).heap[W.heap.size]?=some (bj (zs[x.1]'x.2)) from af rfl);have HIW:=hid hI;clear hI;gi_wp2;obtain ⟨gs,hgs⟩:∃ gs,gs=W.heap.size:=⟨_,rfl⟩;rw [← hgs] at HNW;rw [← hgs];obtain ⟨h3,h4,h5,h6⟩:=HIW.out;have hbw:w1.heap.size≤W.heap.size:=h5.size;have hc:Ch (fun _=>False) W (W.alloc (bj (zs[x.1]'x.2))):=Ch.of_below HAL.out;refine hK _ _ (KeepsFrom.of_grownBy (row:=none) (World.grownBy_alloc W _ none) (fun j e=>by cases e)) ⟨HAL.out.mono hbw,fun c t e=>hc.keep e id⟩ ⟨h3.ch hc id,hc.keep h4 id,h5.trans (HAL.out.mono hbw),Nat.le_trans h6 hc.size⟩ ⟨gs,by rw [HACT.out];rfl,?_,HNW.out⟩;rw [hgs];exact hWs
 case ax=>
  intro x a' u W W' row h hg hr;obtain ⟨gs,e,h1,h2⟩:=h
  exact ⟨gs,e,h1,(Ch.of_grown (S:=fun j=>row=some j) hg fun j hj=>hj).keep h2 fun e2=>by
   obtain ⟨-,o,ho,hc⟩:=hr gs e2;rw [h2] at ho;injection ho with ho
   rw [← ho] at hc;cases hc⟩
 case body=>
  intro l pre x a' W hl2 hr hI hA hlen;obtain ⟨gs,rfl,hgs,hsb⟩:=hA;rw [HACT.out];unfold pS;dsimp only;obtain ⟨h3,h4,h5,h6⟩:=hI;have hpl:pre.length≤1000:=by omega
  have hKl:=lQ (pre.map fun i=>zs[i.1]'i.2);rw [List.length_map] at hKl;obtain ⟨W2,hmu,him2,hgr⟩:=MpIs.set xM h3 (HOK.out _ (List.getElem_mem x.2)) (bs (zs[x.1]'x.2).s) (by unfold maxLen;omega);unfold ny xJ at hmu;rw [eL] at hmu;have d0:W.cell? ⟨w1.heap.size+1,0,none⟩=some (.map (some w1.heap.size)):=aa h4 0;have dl:=ab h4;have g0:W.cell? ⟨gs,0,none⟩=some (.int .i64 (zs[x.1]'x.2).n):=aa hsb 0;have g1:W.cell? ⟨gs,1,none⟩=some (.string (zs[x.1]'x.2).s):=aa hsb 1;have gl:=ab hsb;have HI:=hid (And.intro h4 (And.intro h5 h6));have HG:=hid (And.intro him2 hgr);clear h3 h4 h5 h6 hpl hKl hsb hl2 hr hlen him2 hgr;gi_wp2;obtain ⟨h4,h5,h6⟩:=HI.out;obtain ⟨him2,hgr⟩:=HG.out;have hc:Ch (fun j=>j=w1.heap.size) W W2:=Ch.of_grown hgr fun j hj=>by injection hj with hj;exact hj.symm
  have hb:Below w1.heap.size W W2:=(Below.refl w1.heap.size W).grown hgr h5.size fun j hj=>by injection hj with hj;omega
  refine ⟨KeepsFrom.of_grownBy hgr (fun j hj=>by injection hj with hj;have:=HWB.out.1;omega),⟨hb,fun c t e=>hc.keep e (by omega)⟩,⟨?_,hc.keep h4 (by omega),h5.trans hb,Nat.le_trans h6 hc.size⟩⟩;rw [List.map_append,List.map_cons,List.map_nil,jN];exact him2
 case stop=> rintro D2 c2 pre W _ _ h _;exact h.elim
 case done=>
  intro D2 ys W hDw hys hI hD;subst hys;obtain ⟨h3,h4,h5,h6⟩:=hI
  have hmap:(mK zs.length zs.length (Nat.le_refl _)).map (fun i=>zs[i.1]'i.2)=zs.reverse:=by
   have:=tG zs (⟨0,⟨#[]⟩⟩:Pg) rfl zs.length (Nat.le_refl _);rw [List.take_of_length_le (by rw [List.length_reverse];exact Nat.le_refl _)] at this;rw [← this];refine List.map_congr_left fun x _=>?_
   rw [List.getD_eq_getElem?_getD,List.getElem?_eq_getElem x.2,Option.getD_some]
  rw [hmap] at h3;obtain ⟨K,hK⟩:∃ K,dN zs.reverse=K:=⟨_,rfl⟩;have HKK:=hid hK;rw [hK] at h3 HC;have hKn:K.length≤1000:=by have:=lQ zs.reverse;rw [hK,List.length_reverse] at this;omega
  have HSK:=hid (jZ w1.heap.size W h3 (by omega));have d0:W.cell? ⟨w1.heap.size+1,0,none⟩=some (.map (some w1.heap.size)):=aa h4 0;have dl:=aO h4;have hDl:∀ j,D.F j→j<w1.heap.size:=fun j hj=>HH.out.lt hj
  have hD2:D2<W.heap.size:=aO hD;have HM7:=hid (And.intro h3 (And.intro h4 (And.intro hD (And.intro h5 (And.intro h6 (And.intro hDl hD2))))));clear h3 h4 h5 h6 hD hmap hK hKn hDl hD2;go_wp2_with fail;refine (nn (some w1.heap.size) W).mono ?_;rintro e w8 ⟨rfl,rfl⟩;go_wp2_with fail;refine HSK.out.mono ?_;rintro e w8 ⟨v,rfl,ho,hb8⟩;obtain ⟨ks,hks⟩:∃ ks,bF (K.map (·.1))=ks:=⟨_,rfl⟩;rw [hks] at ho;obtain ⟨A8,c8,rfl,-⟩:=aD ho;have hc8:Ch (fun _=>False) W w8:=Ch.of_below hb8;have HM8:=hid (show fu w8 w1.heap.size K∧w8.heap[w1.heap.size+1]?=some (mG w1.heap.size)∧w8.heap[D2]?=some (.deferred (some [])) from ⟨HM7.out.1.ch hc8 id,hc8.keep HM7.out.2.1 id,hc8.keep HM7.out.2.2.1 id⟩);have HO8:=hid (And.intro ho (And.intro hb8 hks));have hkl:ks.length≤1000:=by rw [← hks];unfold bF;rw [List.length_mergeSort,List.length_map];have:=lQ zs.reverse;rw [HKK.out,List.length_reverse] at this;omega
  have HD8:=hid (show DkIs w8 D d from (HH.out.ch (Ch.of_below (S:=fun _=>False) HM7.out.2.2.2.1) (fun _ _ h=>h)).ch hc8 fun _ _ h=>h);clear ho hb8 hc8 d0 dl hks;go_wp2_with fail;go_loopw [30] (fun iv wr=>∃ j:Nat,j≤ks.length∧iv=.int .i64 j∧DkTo w8 D (d.puts K (ks.take j)) wr) (fun iv _=>ks.length - (intOf iv).toNat)
  case atStart=>exact ⟨0,Nat.zero_le _,rfl,DkTo.refl HD8.out⟩
  case round=>
   obtain ⟨j,hj,rfl,hto⟩:=hrel;obtain ⟨D4,g4,p4,f4,c4⟩:=hto;have hDl:=HM7.out.2.2.2.2.2.1;have hM8:=HM8.out;have hnD:¬ D.F D2:=fun e=>by have:=hDl _ e;have:=HWB.out.1;omega
   have hD8:=c4.keep hM8.2.2 hnD;have HG4:=hid (And.intro g4 (And.intro p4 (And.intro f4 (And.intro c4 hD8))));by_cases hlt:j<ks.length
   ·have ho4:=HO8.out.1.ch c4 fun i hi e=>by have:=(HO8.out.1.lt i hi).1;have:=hDl _ e;have:=HM7.out.2.2.2.1.size;omega
    obtain ⟨bk,ck,hvk,hbk,hck,-⟩:=fI ho4 (fun _=>rfl) hlt;injection hvk with e1 e2 e3
    subst e1 e3;have hcn:=hck _ rfl;have him4:=hM8.1.ch c4 (fun e=>by have:=hDl _ e;omega);have hgi4:=c4.keep hM8.2.1 (fun e=>by have:=hDl _ e;omega);obtain ⟨hn0,hn1,hn2,hfi,hcan⟩:=HC.out.put j ks[j] (by rw [HO8.out.2.2];exact List.getElem?_eq_getElem hlt);have hup:=yk d K ks hlt;rw [HO8.out.2.2] at hfi hcan;have hj0:(0:Int)≤(j:Int):=by omega
    have hj1:(j:Int)<(ks.length:Int):=by omega
    have HJ:=hid (And.intro hj hlt);generalize ks[j]=n at *;obtain ⟨q,rfl⟩:∃ q:Nat,n=q:=⟨n.toNat,by omega⟩;rw [Int.toNat_natCast] at hcan hup;have hlook:=him4.look xM (a:=(q:Int)) (bD (by omega));rw [show qg xJ (.string ⟨#[]⟩) (aC K (q:Int))=.string (aj ((aC K (q:Int)).getD [])) by cases aC K (q:Int) <;> rfl] at hlook;have HUP:=hid hup;generalize (aC K (q:Int)).getD []=im at *;have HCL:=hid (fun w=>fh 1 q 0 im w (by decide) (by omega) (by decide) hn2);have HWR:=hid (fun (w':World) (hb:Below wr.heap.size wr w')=>ed aA (by decide) (q:Int) (aI 1 q 0 im) w' (p4.ch (Ch.of_below (S:=fun _=>False) hb) fun _ _ h=>h));rw [hfi.wrE (by decide) (bw hn2) hcan,hfi.wrS (by decide) (bw hn2) hcan] at HWR;have d0:wr.cell? ⟨w1.heap.size+1,0,none⟩=some (.map (some w1.heap.size)):=aa hgi4 0;have dl:=aO hgi4;rw [g4] at HWR;unfold ny at hlook;unfold cN at HCL;unfold cZ at HWR;rw [uw] at HWR;clear g4 p4 f4 c4 hM8 hnD hD8 ho4 hck e2 him4 hgi4 hcan hfi hn0 hn1 hn2 hup hj;go_wp2_with fail;refine (HCL.out _).mono ?_;rintro e w9 ⟨rfl,hb9⟩;have HB9:=hid hb9;clear hb9;go_wp2_with fail;refine (HWR.out _ HB9.out).mono ?_;rintro e w10 ⟨rfl,hr⟩;have HR9:=hid (show DkTo w8 D (d.puts K (ks.take (j+1))) w10 from by
     rw [HUP.out];refine DkTo.and HG4.out.1 HG4.out.2.2.1 HG4.out.2.2.2.1 (DkTo.pre ?_ HB9.out);obtain ⟨L',q1,q2,q3,q4⟩:=hr;exact ⟨L',q1.trans HG4.out.1.symm,q2,q3,q4⟩)
    clear hr;go_wp2_with fail;go_roundw
    case rel=>exact ⟨j+1,by have:=HJ.out;omega,by go_num,HR9.out⟩
    case measure=>simp [intOf];omega
   ·obtain rfl:j=ks.length:=by omega
    rw [List.take_length] at p4;obtain ⟨dK,hdK⟩:∃ dK,d.puts K ks=dK:=⟨_,rfl⟩;have hfi:=HC.out.fine;obtain ⟨fm,hfm⟩:=HC.out.file;rw [HO8.out.2.2,hdK] at hfi hfm;rw [hdK] at p4;have HSZ:=hid (bp aA (by decide) wr p4);rw [Dk.size_some hfm,g4] at HSZ;unfold cZ at HSZ;rw [uw] at HSZ
    have HEND:=hid (show ∀ (wz:World) (X:Dk),DkTo wr D4 X wz→(∀ o,DkTo w1 D X (wz.putObj D2 o))∧wz.heap[D2]?=some (.deferred (some [])) from fun wz X ⟨L6,r1,r2,r3,r4⟩=>by
     have hsW:=HM7.out.2.2.2.1.size;have hs8:=HO8.out.2.1.size;have hs4:=HG4.out.2.2.2.1.size;have hD2W:=HM7.out.2.2.2.2.2.2;have hwB:=HWB.out.1;have hn4:¬ D4.F D2:=fun e=>(HG4.out.2.2.1 _ e).elim hnD fun e=>by omega
     have hn6:¬ L6.F D2:=fun e=>(r3 _ e).elim hn4 fun e=>by omega
     refine ⟨fun o=>?_,r4.keep hD8 hn4⟩;have hcp:Ch (fun k=>k=D2) wz (wz.putObj D2 o):=Ch.of_grown (grownBy_putObj' wz D2 o) fun k hk=>by injection hk with hk;exact hk.symm
     refine ⟨L6,r1.trans HG4.out.1,r2.ch hcp (fun k hk e=>hn6 (e ▸ hk)),fun k hk=>?_,?_⟩
     ·rcases r3 k hk with e | e
      ·exact (HG4.out.2.2.1 k e).imp id fun e=>by omega
      ·right;omega
     ·have h1:Ch D.F w1 wr:=((Ch.of_below HM7.out.2.2.2.1).trans (Ch.of_below HO8.out.2.1)).trans HG4.out.2.2.2.1;exact (h1.then r4 fun k e=>(HG4.out.2.2.1 k e).imp id fun e=>by omega).then hcp fun k e=>.inr (by omega))
    by_cases hgt:(pages:Int)<(fm.now.length:Int)
    ·have htr:bz dK pages=dK.setF aA (·.cut pages):=if_pos (by rw [Dk.size_some hfm];exact hgt);obtain ⟨y1,y2⟩:=hfi.cu (n:=aA) (by decide) hfm (k:=pages) (by omega);have HCU:=hid (mg aA (by decide) (pages:Int) wr p4);rw [y1,y2,g4] at HCU;unfold cZ at HCU;rw [uw] at HCU;have hok4:=p4.ok;have hfm2:(dK.setF aA (·.cut pages)).file aA=some (fm.cut pages):=by rw [Dk.setF_file hok4,if_pos rfl,hfm];rfl
     have hag:d.again pages K=(dK.setF aA (·.cut pages)).setF aA Fi.settle:=by unfold Dk.again;rw [HO8.out.2.2,hdK,htr]
     have HAG:=hid (And.intro hag (And.intro hfi hfm2));have HG5:=hid (And.intro g4 p4);clear p4 hag htr y1 y2 hfm2 hfi hfm hdK;go_wp2_with fail;refine HSZ.out.mono ?_;rintro e w9 ⟨rfl,rfl⟩;go_wp2_with fail;refine HCU.out.mono ?_;rintro e w10 ⟨rfl,L5,q1,q2,q3,q4⟩;have HSZ2:=hid (bp aA (by decide) w10 q2);rw [Dk.size_some HAG.out.2.2,q1] at HSZ2;have HSY:=hid (dJ aA (by decide) w10 q2);obtain ⟨s1,s2⟩:=(HAG.out.2.1.setF (n:=aA) (g:=(·.cut pages))).sy (n:=aA) (by decide) HAG.out.2.2;rw [s1,s2,q1] at HSY;unfold cZ at HSZ2 HSY;rw [uw] at HSZ2 HSY;have hln:¬ ((fm.cut pages).now.length:Int)<0:=by omega
     have HQ:=hid (And.intro q1 (And.intro q3 q4));clear q1 q2 q3 q4 s1 s2;generalize ((fm.cut pages).now.length:Int)=zl at *;go_wp2_with fail;refine HSZ2.out.mono ?_;rintro e w11 ⟨rfl,rfl⟩;go_wp2_with fail;refine HSY.out.mono ?_;rintro e w11 ⟨rfl,hr⟩;have HF:=hid (HEND.out w11 (d.again pages K) (by
      rw [HAG.out.1];obtain ⟨L6,r1,r2,r3,r4⟩:=hr;exact DkTo.and (L1:=_) (HQ.out.1.trans HG5.out.1.symm) HQ.out.2.1 HQ.out.2.2 ⟨L6,r1.trans HQ.out.1.symm,r2,r3,r4⟩))
     clear hr;go_wp2_with fail;refine ⟨by simp,.inl ⟨_,_,rfl,run_takeDeferred HF.out.2,?_⟩⟩;exact ⟨_,results_tmp rfl _ _ _,rfl,by rw [HKK.out];exact HF.out.1 _⟩
    ·have htr:bz dK pages=dK:=if_neg (by rw [Dk.size_some hfm];exact hgt);have hag:d.again pages K=dK.setF aA Fi.settle:=by unfold Dk.again;rw [HO8.out.2.2,hdK,htr]
     have HAG:=hid hag;have HG5:=hid (And.intro g4 p4);have HSY:=hid (dJ aA (by decide) wr p4);obtain ⟨s1,s2⟩:=hfi.sy (n:=aA) (by decide) hfm;rw [s1,s2,g4] at HSY;unfold cZ at HSY;rw [uw] at HSY;have hln:¬ (fm.now.length:Int)<0:=by omega
     clear p4 hag htr s1 s2 hfi hfm hdK;generalize (fm.now.length:Int)=zl at *;go_wp2_with fail;refine HSZ.out.mono ?_;rintro e w9 ⟨rfl,rfl⟩;go_wp2_with fail;refine HSZ.out.mono ?_;rintro e w9 ⟨rfl,rfl⟩;go_wp2_with fail;refine HSY.out.mono ?_;rintro e w11 ⟨rfl,hr⟩;have HF:=hid (HEND.out w11 (d.again pages K) (by
      rw [HAG.out];obtain ⟨L6,r1,r2,r3,r4⟩:=hr;exact ⟨L6,r1.trans HG5.out.1.symm,r2,r3,r4⟩))
     clear hr;go_wp2_with fail;refine ⟨by simp,.inl ⟨_,_,rfl,run_takeDeferred HF.out.2,?_⟩⟩;exact ⟨_,results_tmp rfl _ _ _,rfl,by rw [HKK.out];exact HF.out.1 _⟩
end Go.Proofs.YtdmhbgpejppbkaaGreat
namespace Go.Proofs.YtdmhbgpejppbkaaGreat
open Go.Lib (hid)
open Go.RowKit Go.Maps
def Dk.undo (d:Dk) (base:Nat) (x:JS):Dk:=(d.again base (dN (aV x.su).reverse)).del aQ
theorem nu (base salt:Nat) (its:List It) (w:World) {D:DkM} {d:Dk} (h:DkIs w D d) (hf:d.Fine) (hn:d.now aQ=gz salt base .zero its) (hh:d.has aQ=true) (hok:ItOk base its) (h4:base≤4096) (hsa:salt<18446744073709551616) (hl:its.length≤900) (hpos:0<(aW its).f)
  (hc:CanAgain d base (dN (aV (aW its).su).reverse)):
  Calls Tryz.prog 102 #[ai D.gd] w fun e w'=>e=.returned (.int .i64 0)∧DkTo w D (d.undo base (aW its)) w':=by
 have hFI:=uG base salt its w h hf hn hh hok h4 hsa hl;rw [if_pos hpos,decide_eq_true hpos] at hFI;have HFI:=hid hFI;have hln:=lK its.length its rfl hok;have hD0:∀ k,D.F k→k<w.heap.size:=fun k hk=>h.lt hk
 have HRE:=hid (show ∀ (v:Value) (w1:World),DkIs w1 D d→Own Pg.cells 2 134 w.heap.size w1 v (aV (aW its).su)→Calls Tryz.prog 150 #[ai D.gd,.int .i64 base,v] w1 fun e w'=>e=.returned (.int .i64 0)∧DkTo w1 D (d.again base (dN (aV (aW its).su).reverse)) w' from fun v w1 hd ho=>
  oT base (aV (aW its).su) v w1 hd ho (fun k hk e=>by have:=(ho.lt k hk).1;have:=hD0 k e;omega) (by rw [bR];omega) (fun p hp=>by
   obtain ⟨r,hr,rfl⟩:=List.mem_map.1 hp;have:=(hok.1 r (oS its r (List.mem_append_left _ hr))).1;exact bD (by omega)) hc)
 have hfa:(d.again base (dN (aV (aW its).su).reverse)).Fine:=by
  have:=hc.fine;unfold Dk.again bz
  split
  ·exact (this.setF).setF
  ·exact this.setF
 have HDR:=hid (fun (w1:World) (L:DkM) (hd:DkIs w1 L (d.again base (dN (aV (aW its).su).reverse)))=>nr w1 hd hfa);unfold Dk.undo;generalize d.again base (dN (aV (aW its).su).reverse)=dA at *;unfold ai at *;clear h hf hn hh hok h4 hsa hl hpos hc hfa hFI hln hD0;go_enter Tryz.func102,Tryz.ntmps102;go_wp2_with fail;refine HFI.out.mono ?_;rintro e w1 ⟨vs,rfl,ho,hd,hc⟩;have HRE1:=hid (HRE.out vs w1 hd ho);have H1:=hid (And.intro hd hc);obtain ⟨As,cs,rfl,-⟩:=aD ho;clear ho hd hc;go_wp2_with fail;refine HRE1.out.mono ?_;rintro e w2 ⟨rfl,L2,q1,q2,q3,q4⟩;have HDR2:=hid (HDR.out w2 L2 q2);rw [q1] at HDR2;have HQ:=hid (And.intro q1 (And.intro q3 q4));clear q1 q2 q3 q4;go_wp2_with fail;refine HDR2.out.mono ?_;rintro e w3 ⟨rfl,hr⟩;have HF:=hid (show DkTo w D (dA.del aQ) w3 from by
  obtain ⟨L3,r1,r2,r3,r4⟩:=hr;refine DkTo.and rfl (fun _ hk=>.inl hk) H1.out.2 (DkTo.and HQ.out.1 HQ.out.2.1 HQ.out.2.2 ⟨L3,?_,r2,r3,r4⟩)
  first | exact r1 | exact r1.trans HQ.out.1.symm)
 clear hr;go_wp2_with fail;go_ret;exact ⟨rfl,HF.out⟩
def Pgr.cleared (P:Pgr):Pgr:={ P.ended with ca:=[] }
structure CanBackJ (P:Pgr) (salt:Nat) (its:List It):Prop where
 fine:P.d.Fine
 now:P.d.now aQ=gz salt P.base .zero its
 has:P.d.has aQ=true
 ok:ItOk P.base its
 b4:P.base≤4096
 sa:salt<18446744073709551616
 len:its.length≤900
 pos:0<(aW its).f
 can:CanAgain P.d P.base (dN (aV (aW its).su).reverse)
inductive UndoP (P:Pgr):Pgr→Prop
 | none (h1:P.lg=none) (h2:P.notes=none) (h3:P.marred=false):UndoP P P.cleared
 | drop (h1:P.lg=none) (h2:P.notes.isSome=true) (h3:P.marred=false) (h4:P.d.Fine):UndoP P { P.cleared with d:=P.d.del aQ }
 | back (salt:Nat) (its:List It) (h1:P.lg=none) (h3:P.marred=true) (h4:CanBackJ P salt its):UndoP P { P.cleared with d:=P.d.undo P.base (aW its) }
 | log (l:List Fr) (mk:Nat) (h1:P.lg=some l) (h2:P.spoilt=false) (h3:P.mark=mk) (h4:mk≤l.length) (h5:P.d.Fine) (h6:mk<l.length→∃ f,P.d.file bf=some f∧mk+1≤f.now.length):UndoP P { P.cleared with d:=cp P.d l mk,lg:=some (l.take mk) }
theorem cX {L:PgL} {k:Nat} (hk:L.bare.F k):L.F k:=by
 rcases hk with hk | hk | hk | hk | hk | hk
 ·exact .inl hk
 ·exact .inr (.inl hk)
 ·exact .inr (.inr (.inl hk))
 ·exact hk.elim
 ·rcases hk with hk | hk <;> cases hk
 ·exact .inr (.inr (.inr (.inr (.inr hk))))
theorem uf (w:World) {L:PgL} {P Q:Pgr} (h:PgIs w L P) (hc:UndoP P Q):
  Calls Tryz.prog 158 #[ai L.gp] w fun e w'=>e=.returned (.int .i64 0)∧PTo w L Q w':=by
 have HE:=hid (fun (w1:World) (hb:Below w.heap.size w w1)=>gg w1 (h.below hb));have HH:=hid h;clear h;cases hc with
 | none h1 h2 h3=>
   have HK:=hid h1;have hjn:L.N=Option.none:=by
    rcases HH.out.jn with ⟨h,-⟩ | ⟨g,x,-,hx,-⟩
    ·exact h
    ·rw [h2] at hx;cases hx
   have hC0:=ag HH.out.blk;have hl0:=hC0.lt;have c23:=hC0.c23;have c24:=hC0.c24;have c25:=hC0.c25;clear hC0;unfold ai at *;go_enter Tryz.func158,Tryz.ntmps158;go_upto_region 1 with fail
   rw [h3] at c25;rw [hjn] at c24;unfold dq at c24;clear h1 h2 h3 hjn;go_region;go_wp2_with fail;refine (HE.out w.drew ((Below.refl w.heap.size w).drew)).mono ?_;rintro e w1 ⟨rfl,hp,hc0⟩;have hc:Ch (fun k=>k=L.gp) w w1:=(Ch.of_below ((Below.refl w.heap.size w).drew)).trans hc0;clear hc0;have HP1:=hid (And.intro hp hc);have c1:=(ag hp.blk).c1;have hl1:=(ag hp.blk).lt;simp only [PgL.bare] at c1 hl1;have HCL:=hid (eC w1 hp.ca (by have:=hp.ok.s1;omega));simp only [PgL.bare] at HCL;clear hp hc;go_wp2_with fail;refine HCL.out.mono ?_;rintro e w2 ⟨F',rfl,hca,hF,hch⟩;obtain ⟨G,-,p2,f2,k2⟩:=HP1.out.1.putCa hca hF hch;have hTT:PTo w L P.cleared w2:=PTo.and (L1:=L.bare) rfl (fun k hk=>.inl (cX hk)) (HP1.out.2.mono fun k _ e=>.inl e) (show PTo w1 L.bare P.cleared w2 from ⟨{ L.bare with Fc:=fun k=>k ∈ G },rfl,p2,f2,k2⟩);obtain ⟨L2,hL2⟩:∃ L2:PgL,L2={ L.bare with Fc:=fun k=>k ∈ G }:=⟨_,rfl⟩;rw [← hL2] at p2;have HP2:=hid (show PgIs w2 L2 P.cleared from p2);have HG2:=hid (show L2.gp=L.gp∧L2.D=L.D∧L2.G=L.G from by rw [hL2];exact ⟨rfl,rfl,rfl⟩);have HT2:=hid (show (∀ k,L2.F k→L.F k∨w.heap.size≤k)∧Ch L.F w w2 from by
    have h2:∀ k,L2.F k→L.bare.F k∨w1.heap.size≤k:=by rw [hL2];exact f2
    exact ⟨fun k hk=>(h2 k hk).elim (fun e=>.inl (cX e)) (fun e=>.inr (Nat.le_trans HP1.out.2.size e)),(HP1.out.2.mono fun k _ e=>.inl e).then k2 fun k e=>.inl (cX e)⟩)
   have HCB:=hid (show Ch L.bare.F w w2 from (HP1.out.2.mono fun k _ e=>.inl e).then k2 fun k e=>.inl e);have HTT:=hid hTT;clear hca hF hch p2 f2 k2 hL2 hTT;have hC:=ag HP2.out.blk;have d9:=hC.c9;have d12:=hC.c22;have d0:=hC.c0;have dl:=hC.lt;rw [HG2.out.1] at d9 d12 d0 dl;rw [HG2.out.2.1] at d0;rw [HG2.out.2.2] at d9;clear hC;rw [HH.out.nolg HK.out] at d9;unfold bn at d9;go_wp2_with fail;go_ret;exact ⟨rfl,HTT.out⟩
 | drop h1 h2 h3 h4=>
   have HK:=hid h1;have HF:=hid h4;obtain ⟨j,hj⟩:=Option.isSome_iff_exists.1 h2;obtain ⟨g,x,hjn,hx,hjx⟩:∃ g x,L.N=some g∧P.notes=some x∧JnIs w L.D.gd g.1 g.2 x:=by
    rcases HH.out.jn with ⟨-,h⟩ | ⟨g,x,h1,h2,h3⟩
    ·rw [hj] at h;cases h
    ·exact ⟨g,x,h1,h2,h3⟩
   have HJX:=hid (And.intro hjn hjx);have hC0:=ag HH.out.blk;have hl0:=hC0.lt;have c23:=hC0.c23;have c24:=hC0.c24;have c25:=hC0.c25;clear hC0;unfold ai at *;go_enter Tryz.func158,Tryz.ntmps158;go_upto_region 1 with fail
   rw [h3] at c25;rw [hjn] at c24;unfold dq ai at c24;clear h1 h2 h3 h4 hjn hj hx hjx;go_region;go_wp2_with fail;refine (HE.out w.drew ((Below.refl w.heap.size w).drew)).mono ?_;rintro e w1 ⟨rfl,hp,hc0⟩;have hc:Ch (fun k=>k=L.gp) w w1:=(Ch.of_below ((Below.refl w.heap.size w).drew)).trans hc0;clear hc0;have HP1:=hid (And.intro hp hc);have c1:=(ag hp.blk).c1;have hl1:=(ag hp.blk).lt;simp only [PgL.bare] at c1 hl1;have HCL:=hid (eC w1 hp.ca (by have:=hp.ok.s1;omega));simp only [PgL.bare] at HCL;clear hp hc;go_wp2_with fail;refine HCL.out.mono ?_;rintro e w2 ⟨F',rfl,hca,hF,hch⟩;obtain ⟨G,-,p2,f2,k2⟩:=HP1.out.1.putCa hca hF hch;have hTT:PTo w L P.cleared w2:=PTo.and (L1:=L.bare) rfl (fun k hk=>.inl (cX hk)) (HP1.out.2.mono fun k _ e=>.inl e) (show PTo w1 L.bare P.cleared w2 from ⟨{ L.bare with Fc:=fun k=>k ∈ G },rfl,p2,f2,k2⟩);obtain ⟨L2,hL2⟩:∃ L2:PgL,L2={ L.bare with Fc:=fun k=>k ∈ G }:=⟨_,rfl⟩;rw [← hL2] at p2;have HP2:=hid (show PgIs w2 L2 P.cleared from p2);have HG2:=hid (show L2.gp=L.gp∧L2.D=L.D∧L2.G=L.G from by rw [hL2];exact ⟨rfl,rfl,rfl⟩);have HT2:=hid (show (∀ k,L2.F k→L.F k∨w.heap.size≤k)∧Ch L.F w w2 from by
    have h2:∀ k,L2.F k→L.bare.F k∨w1.heap.size≤k:=by rw [hL2];exact f2
    exact ⟨fun k hk=>(h2 k hk).elim (fun e=>.inl (cX e)) (fun e=>.inr (Nat.le_trans HP1.out.2.size e)),(HP1.out.2.mono fun k _ e=>.inl e).then k2 fun k e=>.inl (cX e)⟩)
   have HCB:=hid (show Ch L.bare.F w w2 from (HP1.out.2.mono fun k _ e=>.inl e).then k2 fun k e=>.inl e);have HTT:=hid hTT;clear hca hF hch p2 f2 k2 hL2 hTT;have hC:=ag HP2.out.blk;have d9:=hC.c9;have d12:=hC.c22;have d0:=hC.c0;have dl:=hC.lt;rw [HG2.out.1] at d9 d12 d0 dl;rw [HG2.out.2.1] at d0;rw [HG2.out.2.2] at d9;clear hC;rw [HH.out.nolg HK.out] at d9;unfold bn at d9;have hap:=HH.out.apart;have hjF:∀ k,(k=g.1∨k=g.2)→qw L.N k:=fun k e=>by rw [HJX.out.1];exact e
   have hbF:∀ k,L.bare.F k→¬ qw L.N k:=fun k hk hj=>by
    rcases hk with hk | hk | hk | hk | hk | hk
    ·exact hap.pj (hk ▸ hj)
    ·exact hap.dj k hk hj
    ·exact hap.cj k hk hj
    ·exact hk.elim
    ·rcases hk with hk | hk <;> cases hk
    ·exact hap.jl k hj hk
   have hCw:Ch L.bare.F w w2:=HCB.out;have hjx2:=HJX.out.2.ch hCw (fun e=>hbF _ e (hjF _ (.inl rfl))) (fun e=>hbF _ e (hjF _ (.inr rfl)));have HEN:=hid (lJ x w2 HP2.out.dk (by rw [HG2.out.2.1];exact hjx2) HF.out);unfold ai at HEN;clear hap hjF hbF hCw hjx2;go_wp2_with fail;refine HEN.out.mono ?_;rintro e w3 ⟨rfl,hr⟩;have HFF:=hid (PTo.and HG2.out.1 HT2.out.1 HT2.out.2 (PTo.dk HP2.out hr));clear hr;go_wp2_with fail;go_ret;exact ⟨rfl,HFF.out⟩
 | back salt its h1 h3 h4=>
   have HK:=hid h1;have HC:=hid h4;have hC0:=ag HH.out.blk;have hl0:=hC0.lt;have c23:=hC0.c23;have c24:=hC0.c24;have c25:=hC0.c25;clear hC0;unfold ai at *;go_enter Tryz.func158,Tryz.ntmps158;go_upto_region 1 with fail
   rw [h3] at c25;clear h1 h3 h4;cases hN:L.N with
   | none=>
     rw [hN] at c24;unfold dq at c24;go_region;go_wp2_with fail;refine (HE.out w.drew ((Below.refl w.heap.size w).drew)).mono ?_;rintro e w1 ⟨rfl,hp,hc0⟩;have hc:Ch (fun k=>k=L.gp) w w1:=(Ch.of_below ((Below.refl w.heap.size w).drew)).trans hc0;clear hc0;have HP1:=hid (And.intro hp hc);have c1:=(ag hp.blk).c1;have hl1:=(ag hp.blk).lt;simp only [PgL.bare] at c1 hl1;have HCL:=hid (eC w1 hp.ca (by have:=hp.ok.s1;omega));simp only [PgL.bare] at HCL;clear hp hc;go_wp2_with fail;refine HCL.out.mono ?_;rintro e w2 ⟨F',rfl,hca,hF,hch⟩;obtain ⟨G,-,p2,f2,k2⟩:=HP1.out.1.putCa hca hF hch;have hTT:PTo w L P.cleared w2:=PTo.and (L1:=L.bare) rfl (fun k hk=>.inl (cX hk)) (HP1.out.2.mono fun k _ e=>.inl e) (show PTo w1 L.bare P.cleared w2 from ⟨{ L.bare with Fc:=fun k=>k ∈ G },rfl,p2,f2,k2⟩);obtain ⟨L2,hL2⟩:∃ L2:PgL,L2={ L.bare with Fc:=fun k=>k ∈ G }:=⟨_,rfl⟩;rw [← hL2] at p2;have HP2:=hid (show PgIs w2 L2 P.cleared from p2);have HG2:=hid (show L2.gp=L.gp∧L2.D=L.D∧L2.G=L.G from by rw [hL2];exact ⟨rfl,rfl,rfl⟩);have HT2:=hid (show (∀ k,L2.F k→L.F k∨w.heap.size≤k)∧Ch L.F w w2 from by
      have h2:∀ k,L2.F k→L.bare.F k∨w1.heap.size≤k:=by rw [hL2];exact f2
      exact ⟨fun k hk=>(h2 k hk).elim (fun e=>.inl (cX e)) (fun e=>.inr (Nat.le_trans HP1.out.2.size e)),(HP1.out.2.mono fun k _ e=>.inl e).then k2 fun k e=>.inl (cX e)⟩)
     have HCB:=hid (show Ch L.bare.F w w2 from (HP1.out.2.mono fun k _ e=>.inl e).then k2 fun k e=>.inl e);have HTT:=hid hTT;clear hca hF hch p2 f2 k2 hL2 hTT;have hC:=ag HP2.out.blk;have d9:=hC.c9;have d12:=hC.c22;have d0:=hC.c0;have dl:=hC.lt;rw [HG2.out.1] at d9 d12 d0 dl;rw [HG2.out.2.1] at d0;rw [HG2.out.2.2] at d9;clear hC;rw [HH.out.nolg HK.out] at d9;unfold bn at d9;have HBK:=hid (nu P.base salt its w2 HP2.out.dk HC.out.fine HC.out.now HC.out.has HC.out.ok HC.out.b4 HC.out.sa HC.out.len HC.out.pos HC.out.can);rw [HG2.out.2.1] at HBK;unfold ai at HBK d0;go_wp2_with fail;refine HBK.out.mono ?_;rintro e w3 ⟨rfl,hr⟩;have HFF:=hid (PTo.and HG2.out.1 HT2.out.1 HT2.out.2 (PTo.dk HP2.out (by rw [HG2.out.2.1];exact hr)));clear hr;go_wp2_with fail;go_ret;exact ⟨rfl,HFF.out⟩
   | some g=>
     rw [hN] at c24;unfold dq ai at c24;go_region;go_wp2_with fail;refine (HE.out w.drew ((Below.refl w.heap.size w).drew)).mono ?_;rintro e w1 ⟨rfl,hp,hc0⟩;have hc:Ch (fun k=>k=L.gp) w w1:=(Ch.of_below ((Below.refl w.heap.size w).drew)).trans hc0;clear hc0;have HP1:=hid (And.intro hp hc);have c1:=(ag hp.blk).c1;have hl1:=(ag hp.blk).lt;simp only [PgL.bare] at c1 hl1;have HCL:=hid (eC w1 hp.ca (by have:=hp.ok.s1;omega));simp only [PgL.bare] at HCL;clear hp hc;go_wp2_with fail;refine HCL.out.mono ?_;rintro e w2 ⟨F',rfl,hca,hF,hch⟩;obtain ⟨G,-,p2,f2,k2⟩:=HP1.out.1.putCa hca hF hch;have hTT:PTo w L P.cleared w2:=PTo.and (L1:=L.bare) rfl (fun k hk=>.inl (cX hk)) (HP1.out.2.mono fun k _ e=>.inl e) (show PTo w1 L.bare P.cleared w2 from ⟨{ L.bare with Fc:=fun k=>k ∈ G },rfl,p2,f2,k2⟩);obtain ⟨L2,hL2⟩:∃ L2:PgL,L2={ L.bare with Fc:=fun k=>k ∈ G }:=⟨_,rfl⟩;rw [← hL2] at p2;have HP2:=hid (show PgIs w2 L2 P.cleared from p2);have HG2:=hid (show L2.gp=L.gp∧L2.D=L.D∧L2.G=L.G from by rw [hL2];exact ⟨rfl,rfl,rfl⟩);have HT2:=hid (show (∀ k,L2.F k→L.F k∨w.heap.size≤k)∧Ch L.F w w2 from by
      have h2:∀ k,L2.F k→L.bare.F k∨w1.heap.size≤k:=by rw [hL2];exact f2
      exact ⟨fun k hk=>(h2 k hk).elim (fun e=>.inl (cX e)) (fun e=>.inr (Nat.le_trans HP1.out.2.size e)),(HP1.out.2.mono fun k _ e=>.inl e).then k2 fun k e=>.inl (cX e)⟩)
     have HCB:=hid (show Ch L.bare.F w w2 from (HP1.out.2.mono fun k _ e=>.inl e).then k2 fun k e=>.inl e);have HTT:=hid hTT;clear hca hF hch p2 f2 k2 hL2 hTT;have hC:=ag HP2.out.blk;have d9:=hC.c9;have d12:=hC.c22;have d0:=hC.c0;have dl:=hC.lt;rw [HG2.out.1] at d9 d12 d0 dl;rw [HG2.out.2.1] at d0;rw [HG2.out.2.2] at d9;clear hC;rw [HH.out.nolg HK.out] at d9;unfold bn at d9;have HBK:=hid (nu P.base salt its w2 HP2.out.dk HC.out.fine HC.out.now HC.out.has HC.out.ok HC.out.b4 HC.out.sa HC.out.len HC.out.pos HC.out.can);rw [HG2.out.2.1] at HBK;unfold ai at HBK d0;go_wp2_with fail;refine HBK.out.mono ?_;rintro e w3 ⟨rfl,hr⟩;have HFF:=hid (PTo.and HG2.out.1 HT2.out.1 HT2.out.2 (PTo.dk HP2.out (by rw [HG2.out.2.1];exact hr)));clear hr;go_wp2_with fail;go_ret;exact ⟨rfl,HFF.out⟩
 | log l mk h1 h2 h3 h4 h5 h6=>
   have HK:=hid h1;have HC:=hid (And.intro h3 (And.intro h4 (And.intro h5 h6)));have hC0:=ag HH.out.blk;have hl0:=hC0.lt;have c23:=hC0.c23;have c24:=hC0.c24;have c25:=hC0.c25;clear hC0;unfold ai at *;go_enter Tryz.func158,Tryz.ntmps158;go_upto_region 1 with fail
   rw [h2] at c23;clear h1 h2 h3 h4 h5 h6;generalize dq L.N=jv at *;generalize P.marred=mv at *;go_region;go_wp2_with fail;refine (HE.out w.drew ((Below.refl w.heap.size w).drew)).mono ?_;rintro e w1 ⟨rfl,hp,hc0⟩;have hc:Ch (fun k=>k=L.gp) w w1:=(Ch.of_below ((Below.refl w.heap.size w).drew)).trans hc0;clear hc0;have HP1:=hid (And.intro hp hc);have c1:=(ag hp.blk).c1;have hl1:=(ag hp.blk).lt;simp only [PgL.bare] at c1 hl1;have HCL:=hid (eC w1 hp.ca (by have:=hp.ok.s1;omega));simp only [PgL.bare] at HCL;clear hp hc;go_wp2_with fail;refine HCL.out.mono ?_;rintro e w2 ⟨F',rfl,hca,hF,hch⟩;obtain ⟨G,-,p2,f2,k2⟩:=HP1.out.1.putCa hca hF hch;have hTT:PTo w L P.cleared w2:=PTo.and (L1:=L.bare) rfl (fun k hk=>.inl (cX hk)) (HP1.out.2.mono fun k _ e=>.inl e) (show PTo w1 L.bare P.cleared w2 from ⟨{ L.bare with Fc:=fun k=>k ∈ G },rfl,p2,f2,k2⟩);obtain ⟨L2,hL2⟩:∃ L2:PgL,L2={ L.bare with Fc:=fun k=>k ∈ G }:=⟨_,rfl⟩;rw [← hL2] at p2;have HP2:=hid (show PgIs w2 L2 P.cleared from p2);have HG2:=hid (show L2.gp=L.gp∧L2.D=L.D∧L2.G=L.G from by rw [hL2];exact ⟨rfl,rfl,rfl⟩);have HT2:=hid (show (∀ k,L2.F k→L.F k∨w.heap.size≤k)∧Ch L.F w w2 from by
    have h2:∀ k,L2.F k→L.bare.F k∨w1.heap.size≤k:=by rw [hL2];exact f2
    exact ⟨fun k hk=>(h2 k hk).elim (fun e=>.inl (cX e)) (fun e=>.inr (Nat.le_trans HP1.out.2.size e)),(HP1.out.2.mono fun k _ e=>.inl e).then k2 fun k e=>.inl (cX e)⟩)
   have HCB:=hid (show Ch L.bare.F w w2 from (HP1.out.2.mono fun k _ e=>.inl e).then k2 fun k e=>.inl e);have HTT:=hid hTT;clear hca hF hch p2 f2 k2 hL2 hTT;have hC:=ag HP2.out.blk;have d9:=hC.c9;have d12:=hC.c22;have d0:=hC.c0;have dl:=hC.lt;rw [HG2.out.1] at d9 d12 d0 dl;rw [HG2.out.2.1] at d0;rw [HG2.out.2.2] at d9;clear hC;obtain ⟨M2,hM2,hl2⟩:=HP2.out.haslg (show P.cleared.lg=some l from HK.out);have hM0:L.G=some M2:=by rw [← HG2.out.2.2];exact hM2
   rw [hM0] at d9;rw [show P.cleared.mark=mk from HC.out.1] at d12;unfold bn at d9;have hb2:Below w2.heap.size w2 w2.drew:=(Below.refl w2.heap.size w2).drew;have HLN:=hid (lq w2.drew (hl2.below hb2));have HBK:=hid (uB mk w2.drew (HP2.out.below hb2).dk (hl2.below hb2) (eU HP2.out hM2) HC.out.2.2.1 HC.out.2.1 HC.out.2.2.2);have hmn:min (mk:Int) (l.length:Int)=mk:=by have:=HC.out.2.1;omega
   have HMM:=hid hM2
   have HCE:=hid (show ∀ (w9:World) (X:Dk) (y:List Fr),LTo w2.drew L2.D M2 X y w9→w9.cell? ⟨L.gp,9,none⟩=some (ai M2.gl)∧w9.cell? ⟨L.gp,22,none⟩=some (.int .i64 mk) from fun w9 X y ⟨_,_,_,_,_,_,_,_,_,hc⟩=>by
    have hap:=HP2.out.apart;have hn:¬ (L2.D.F L.gp∨iA M2 L.gp):=fun e=>e.elim (fun e=>hap.pd (by rw [HG2.out.1];exact e)) (fun e=>hap.pl (by rw [hM2,HG2.out.1];exact e))
    exact ⟨hc.cell (show w2.drew.cell? ⟨L.gp,9,none⟩=_ from d9) hn,hc.cell (show w2.drew.cell? ⟨L.gp,22,none⟩=_ from d12) hn⟩)
   clear hl2 hM2 hM0 hb2;unfold ai at *;go_wp2_with fail
   go_region_held3 (fun w'=>w'.cell? ⟨L.gp,9,none⟩=some (.pointer (some ⟨M2.gl,0,none⟩))∧w'.cell? ⟨L.gp,22,none⟩=some (.int .i64 mk)) (first | exact e9 | exact ⟨d9,d12⟩)
    (first
     | (go_at_call 109;(with_reducible refine HLN.out.mono ?_);rintro e w9 ⟨rfl,rfl⟩)
     | (go_at_call 214;(with_reducible refine HBK.out.mono ?_);rintro e w9 ⟨rfl,hr⟩;have e9:=HCE.out _ _ _ hr;have HR:=hid hr;clear hr))
   have HFF:=hid (show PTo w L { P.cleared with d:=cp P.d l mk,lg:=some (l.take mk) } w9 from PTo.and HG2.out.1 HT2.out.1 HT2.out.2 (PTo.pre ((HP2.out.below ((Below.refl w2.heap.size w2).drew)).setDL HMM.out HR.out) ((Below.refl w2.heap.size w2).drew)));go_wp2_with fail;go_ret;exact ⟨rfl,HFF.out⟩
theorem mV (w:World) {L:PgL} {P Q:Pgr} (h:PgIs w L P) (hc:UndoP P Q) (hd:Q.d.down=false):
  Calls Tryz.prog 106 #[ai L.gp] w fun e w'=>e=.returned (.int .i64 50)∧PTo w L Q w':=by
 have HU:=hid (uf w h hc);unfold ai at *;clear h hc;go_enter Tryz.func106,Tryz.ntmps106;go_wp2_with fail;refine HU.out.mono ?_;rintro e w1 ⟨rfl,L1,g1,p1,f1,k1⟩;have HD:=hid (co w1 p1.dk);rw [hd] at HD;have c0:=(ag p1.blk).c0;have hlt:=(ag p1.blk).lt;rw [g1] at c0 hlt;unfold ai at c0;have HT:=hid (show PTo w L Q w1 from ⟨L1,g1,p1,f1,k1⟩);clear g1 p1 f1 k1 hd;go_wp2_with fail;refine HD.out.mono ?_;rintro e w2 ⟨rfl,rfl⟩;go_wp2_with fail;go_ret;exact ⟨rfl,HT.out⟩
theorem mx (w:World) {L:PgL} {P Q:Pgr} (h:PgIs w L P) (hu:P.Up) (hb:P.busy=true) (hc:UndoP P Q) (hd:Q.d.down=false):
  Calls Tryz.prog 49 #[ai L.gp] w fun e w'=>e=.returned (.int .i64 0)∧PTo w L Q w':=by
 have HQ:=hid (And.intro hc hd);clear hc hd;have hA:Below w.heap.size w (w.alloc (.cells #[.bool true] 4)):=(Below.refl _ w).alloc (Nat.le_refl _) _;have hX:(w.alloc (.cells #[.bool true] 4)).heap[w.heap.size]?=some (.cells #[.bool true] 4 (0,0)):=af rfl;have HB:=hid (ak true w.heap.size _ (h.below hA) hu (aa hX 0) (ab hX));rw [hb,show bV (some true) true=0 from rfl] at HB;have HA:=hid hA;have HH:=hid h;have HU:=hid (And.intro hu hb);unfold ai at *;clear h hu hb hA hX;go_enter Tryz.func49,Tryz.ntmps49;go_wp2_with fail;refine HB.out.mono ?_;rintro e w1 ⟨rfl,hb1⟩;have HB1:=hid (HA.out.trans (hb1.mono HA.out.size));have HP1:=hid (HH.out.below HB1.out);have hC:=ag HP1.out.blk;have hlt:=hC.lt;have HF:=hid (mV w1 HP1.out HQ.out.1 HQ.out.2);unfold ai at HF;clear hb1 hC hlt;go_wp2_with fail;refine HF.out.mono ?_;rintro e w2 ⟨rfl,hr⟩;have HR:=hid (PTo.pre hr HB1.out);clear hr;go_wp2_with fail;go_ret;exact ⟨rfl,HR.out⟩
theorem oE (w:World) {L:PgL} {P Q:Pgr} (h:PgIs w L P) (hu:P.Up) (hb:P.busy=true) (hwr:P.wrote=true) (hc:CanCom2 P Q):
  Calls Tryz.prog 36 #[ai L.gp] w fun e w'=>e=.returned (.int .i64 0)∧PTo w L Q.com w':=by
 have HCC:=hid (And.intro hc hwr);clear hc hwr;have hA:Below w.heap.size w (w.alloc (.cells #[.bool true] 4)):=(Below.refl _ w).alloc (Nat.le_refl _) _;have hX:(w.alloc (.cells #[.bool true] 4)).heap[w.heap.size]?=some (.cells #[.bool true] 4 (0,0)):=af rfl;have HB:=hid (ak true w.heap.size _ (h.below hA) hu (aa hX 0) (ab hX));rw [hb,show bV (some true) true=0 from rfl] at HB;have HA:=hid hA;have HH:=hid h;have HU:=hid (And.intro hu hb);unfold ai at *;clear h hu hb hA hX;go_enter Tryz.func36,Tryz.ntmps36;go_wp2_with fail;refine HB.out.mono ?_;rintro e w1 ⟨rfl,hb1⟩;have HB1:=hid (HA.out.trans (hb1.mono HA.out.size));have HP1:=hid (HH.out.below HB1.out);have hC:=ag HP1.out.blk;have hlt:=hC.lt;have c14:=hC.c14;rw [HCC.out.2] at c14;have HCM:=hid (gt w1 HP1.out HCC.out.1);unfold ai at HCM;clear hb1 hC;go_wp2_with fail;refine HCM.out.mono ?_;rintro e w2 ⟨rfl,hr⟩;have HR:=hid (PTo.pre hr HB1.out);clear hr;go_wp2_with fail;go_ret;exact ⟨rfl,HR.out⟩
theorem oF (w:World) {L:PgL} {P:Pgr} (h:PgIs w L P) (hu:P.Up) (hb:P.busy=true) (hwr:P.wrote=false):
  Calls Tryz.prog 36 #[ai L.gp] w fun e w'=>e=.returned (.int .i64 0)∧PTo w L P.ended w':=by
 have HCC:=hid hwr;clear hwr;have hA:Below w.heap.size w (w.alloc (.cells #[.bool true] 4)):=(Below.refl _ w).alloc (Nat.le_refl _) _;have hX:(w.alloc (.cells #[.bool true] 4)).heap[w.heap.size]?=some (.cells #[.bool true] 4 (0,0)):=af rfl;have HB:=hid (ak true w.heap.size _ (h.below hA) hu (aa hX 0) (ab hX));rw [hb,show bV (some true) true=0 from rfl] at HB;have HA:=hid hA;have HH:=hid h;have HU:=hid (And.intro hu hb);unfold ai at *;clear h hu hb hA hX;go_enter Tryz.func36,Tryz.ntmps36;go_wp2_with fail;refine HB.out.mono ?_;rintro e w1 ⟨rfl,hb1⟩;have HB1:=hid (HA.out.trans (hb1.mono HA.out.size));have HP1:=hid (HH.out.below HB1.out);have hC:=ag HP1.out.blk;have hlt:=hC.lt;have c14:=hC.c14;rw [HCC.out] at c14;have HCM:=hid (kr w1 HP1.out);unfold ai at HCM;clear hb1 hC;go_wp2_with fail;refine HCM.out.mono ?_;rintro e w2 ⟨rfl,hr⟩;have HR:=hid (PTo.pre hr HB1.out);clear hr;go_wp2_with fail;go_ret;exact ⟨rfl,HR.out⟩
end Go.Proofs.YtdmhbgpejppbkaaGreat
