/- slices.Sorted over maps.Keys: the names of files, the numbers of pages; maps.Copy of images. pager: restore; maps.Copy of images. -/
import Derived.Test.YtdmhbgpejppbkaaGreatZShelf
import Derived.Test.YtdmhbgpejppbkaaGreatZGbi
import Derived.Test.YtdmhbgpejppbkaaGreatZGaw
import Derived.Test.YtdmhbgpejppbkaaGreatZGbk
import Derived.Shelf.SlIter.Nil
import Derived.Shelf.SlIterI.Nil
import Derived.Shelf.SortM.Plain
import Derived.Shelf.SortM.SortNone
import Derived.Shelf.SlMaps.Copy
set_option maxRecDepth 100000
set_option maxHeartbeats 4000000
namespace Go.Proofs.YtdmhbgpejppbkaaGreat
open Go.RowKit Go.Maps Go.Sort Go.Shelf
theorem sM (m:Nat):AnyZ.SortsIn Tryz.prog Tryz.sortedS_ren Fence.wide m:=
 ⟨fun blk off cap ss W hH hblk hsz=>callsIn_wide.2 (AnyM.slices_Sort_string Tryz.sortS blk off cap ss W hH hblk hsz),
  fun p cap W=>callsIn_wide.2 (AnyM.slices_Sort_string_none Tryz.sortS p cap W)⟩
theorem sN (m:Nat):AnyZI.SortsIn Tryz.prog Tryz.sortedI_ren Fence.wide m:=
 ⟨fun blk off cap ss W hH hblk hsz=>callsIn_wide.2 (AnyM.slices_Sort_int Tryz.sortI blk off cap ss W hH hblk hsz),
  fun p cap W=>callsIn_wide.2 (AnyM.slices_Sort_int_none Tryz.sortI p cap W)⟩
theorem ol (mb:Option Nat) (W:World):Calls Tryz.prog 119 #[.map mb] W fun e w'=>e=.returned (.func (.func 182) #[] #[.pointer (some ⟨W.heap.size,0,none⟩)])∧w'=W.alloc (.cells #[.map mb] 67):=
 (callsIn_wide (n:=5)).1 (AnyZ.keys_in Tryz.keysS Fence.wide 5 trivial rfl mb W)
theorem om (mb:Option Nat) (W:World):Calls Tryz.prog 98 #[.map mb] W fun e w'=>e=.returned (.func (.func 146) #[] #[.pointer (some ⟨W.heap.size,0,none⟩)])∧w'=W.alloc (.cells #[.map mb] 102):=
 (callsIn_wide (n:=5)).1 (AnyZI.keys_in Tryz.keysI Fence.wide 5 trivial rfl mb W)
def uq (n:By):List Value:=[dQ n]
theorem rC (n:By):(uq n).length=1:=rfl
theorem qr (l:List By):l.flatMap uq=l.map encStr:=by
 induction l with
 | nil=>rfl
 | cons a l ih=>rw [List.flatMap_cons,ih];rfl
theorem qt (l:List Int):l.flatMap (fun n=>[Value.int .i64 n])=l.map encZ:=by
 induction l with
 | nil=>rfl
 | cons a l ih=>rw [List.flatMap_cons,ih];rfl
theorem il {w:World} {gm n:Nat} {K:List (By × Nat)} {D:DataW Unit} (ho:w.ownsMap Tryz.prog 9 em gm n D) (hm:MpOf kk tL D K):(K.map (·.1)).Perm (strKeys D):=by
 obtain ⟨es,hD,hpw,_⟩:=ho.entries (string_keyed Tryz.underlying9);obtain ⟨es',hD',hko⟩:=ho.keysOf;obtain rfl:es=es':=by rw [hD] at hD';simpa using hD'
 subst hD;refine perm_strKeys hpw (fun p hp=>by obtain ⟨v,hv⟩:=hko p hp;obtain ⟨x,_,hx,_⟩:=Maps.keyOf_str Tryz.underlying9 hv;exact ⟨x,hx⟩) hm.nd (fun x=>?_);have h1:=hm.has fmT x;rw [dv] at h1;rw [show (Lit.string x)=kk x from rfl,h1];exact ⟨fun h=>by simpa using h,fun h=>by simpa using h⟩
theorem nV {w:World} {gm n:Nat} {K:List (Int × By)} {D:DataW Unit} (ho:w.ownsMap Tryz.prog 3 sx gm n D) (hm:MpOf bR qV D K):(K.map (·.1)).Perm (intKeys D):=by
 obtain ⟨es,hD,hpw,_⟩:=ho.entries bQ;obtain ⟨es',hD',hko⟩:=ho.keysOf;obtain rfl:es=es':=by rw [hD] at hD';simpa using hD'
 subst hD;refine perm_intKeys hpw (fun p hp=>by obtain ⟨v,hv⟩:=hko p hp;obtain ⟨x,_,hx,_⟩:=Maps.keyOf_i64 Tryz.underlying3 hv;exact ⟨x,hx⟩) hm.nd (fun x=>?_);have h1:=hm.has sD x;rw [dv] at h1;rw [show (Lit.int .i64 x)=bR x from rfl,h1];exact ⟨fun h=>by simpa using h,fun h=>by simpa using h⟩
def ie (l:List By):List By:=l.mergeSort fun x y=>decide (x≤y)
def ii (l:List Int):List Int:=l.mergeSort fun x y=>decide (x≤y)
theorem kK {K:List (By × Nat)} (gm:Nat) (w:World) (hm:kA w gm K) (hl:K.length≤1000000):
  Calls Tryz.prog 118 #[.func (.func 182) #[] #[.pointer (some ⟨w.heap.size,0,none⟩)]] (w.alloc (.cells #[.map (some gm)] 67)) fun e w'=>∃ v,e=.returned v∧
   Own uq 1 9 w.heap.size w' v (ie (K.map (·.1)))∧Below w.heap.size w w':=by
 obtain ⟨D0,hown,hmo⟩:=hm;have hsz:Maps.size D0=K.length:=hmo.size;have hp:=il hown hmo
 have hseq:SeqGives Fence.wide 2 Tryz.prog 182 #[.pointer (some ⟨w.heap.size,0,none⟩)] encStr (fun ss=>ss.Perm (strKeys D0)) (Maps.size D0) (w.alloc (.cells #[.map (some gm)] 67)):=
  AnyZ.keys_gives (ρ:=Tryz.keysS_ren) { Tryz.keysS with } Fence.wide _ trivial rfl (by omega) w.heap.size gm K.length D0 _ (by simp) (by simp) (by
   have hbl:=hown.lt;obtain ⟨es,clock,hb,Ft,hs,hD⟩:=hown;exact ⟨es,clock,(Below.heap_alloc _ _ gm hbl).trans hb,Ft,hs,hD⟩)
 have h:=AnyZ.sorted_in Tryz.sortedS Fence.wide 5 trivial trivial trivial trivial rfl (by omega) (sM _) (enters_of Tryz.func181 (by kernel_rfl) rfl) 182 #[.pointer (some ⟨w.heap.size,0,none⟩)] trivial (enters_of Tryz.func182 (by kernel_rfl) rfl) _ _ (by rw [hsz];unfold maxLen;omega) (by rw [hsz];omega) _ hseq;refine ((callsIn_wide (n:=5)).1 h).mono ?_;rintro e w' ⟨v,ss,rfl,hS,hrow,-,hb⟩;refine ⟨v,rfl,?_,((Below.refl _ w).alloc (Nat.le_refl _) _).trans (hb.mono (by simp))⟩;have hS2:ss.Perm (K.map (·.1)):=hS.trans hp.symm;have e1:ie (K.map (·.1))=ss.mergeSort fun x y=>decide (x≤y):=(mergeSort_of_perm hS2).symm
 unfold Own;rw [qr,e1,List.length_mergeSort];exact ownsRow_base_a hrow (by simp)
theorem kL {K:List (Int × By)} (gm:Nat) (w:World) (hm:fI w gm K) (hl:K.length≤1000000):
  Calls Tryz.prog 97 #[.func (.func 146) #[] #[.pointer (some ⟨w.heap.size,0,none⟩)]] (w.alloc (.cells #[.map (some gm)] 102)) fun e w'=>∃ v,e=.returned v∧
   Own (fun n=>[Value.int .i64 n]) 1 3 w.heap.size w' v (ii (K.map (·.1)))∧Below w.heap.size w w':=by
 obtain ⟨D0,hown,hmo⟩:=hm;have hsz:Maps.size D0=K.length:=hmo.size;have hp:=nV hown hmo
 have hseq:SeqGives Fence.wide 2 Tryz.prog 146 #[.pointer (some ⟨w.heap.size,0,none⟩)] encZ (fun ss=>ss.Perm (intKeys D0)) (Maps.size D0) (w.alloc (.cells #[.map (some gm)] 102)):=
  AnyZI.keys_gives (ρ:=Tryz.keysI_ren) { Tryz.keysI with } Fence.wide _ trivial rfl (by omega) w.heap.size gm K.length D0 _ (by simp) (by simp) (by
   have hbl:=hown.lt;obtain ⟨es,clock,hb,Ft,hs,hD⟩:=hown;exact ⟨es,clock,(Below.heap_alloc _ _ gm hbl).trans hb,Ft,hs,hD⟩)
 have h:=AnyZI.sorted_in Tryz.sortedI Fence.wide 5 trivial trivial trivial trivial rfl (by omega) (sN _) (enters_of Tryz.func145 (by kernel_rfl) rfl) 146 #[.pointer (some ⟨w.heap.size,0,none⟩)] trivial (enters_of Tryz.func146 (by kernel_rfl) rfl) _ _ (by rw [hsz];unfold maxLen;omega) (by rw [hsz];omega) _ hseq;refine ((callsIn_wide (n:=5)).1 h).mono ?_;rintro e w' ⟨v,ss,rfl,hS,hrow,-,hb⟩;refine ⟨v,rfl,?_,((Below.refl _ w).alloc (Nat.le_refl _) _).trans (hb.mono (by simp))⟩;have hS2:ss.Perm (K.map (·.1)):=hS.trans hp.symm;have e1:ii (K.map (·.1))=ss.mergeSort fun x y=>decide (x≤y):=(mergeSort_of_perm_i hS2).symm
 unfold Own;rw [qt,e1,List.length_mergeSort];exact ownsRow_base_a hrow (by simp)
end Go.Proofs.YtdmhbgpejppbkaaGreat
namespace Go.Proofs.YtdmhbgpejppbkaaGreat
open Go.Lib (hid)
open Go.RowKit Go.Maps
theorem mH (n:Nat) (p:He × Nat) (g:Nat) (w:World) (hg:w.cell? ⟨g,0,none⟩=some (.int .i64 n)) (hl:g<w.heap.size):
  Calls Tryz.prog 148 #[pq p,.pointer (some ⟨g,0,none⟩)] w fun e w'=>e=.returned (.bool (aR n p))∧Below w.heap.size w w':=by
 have HA:=hid ((Below.refl _ w).alloc (Nat.le_refl _) (oW p));unfold pq;go_enter Tryz.func148,Tryz.ntmps148;by_cases h:n<p.1.pages
 ·have h1:(n:Int)<(p.1.pages:Int):=by omega
  go_wp2_with fail;go_ret;exact ⟨by simp [aR,h],HA.out⟩
 ·have h1:¬ (n:Int)<(p.1.pages:Int):=by omega
  go_wp2_with fail;go_ret;exact ⟨by simp [aR,h],HA.out⟩
theorem my (n:Nat) (g:Nat) (v:Value) (xs:List (He × Nat)) (w:World) (h:Sl je 7 w v xs) (hl:xs.length≤1000000) (hg:w.cell? ⟨g,0,none⟩=some (.int .i64 n)) (hgl:g<w.heap.size):
  Calls Tryz.prog 206 #[v,.func (Fn.func 148) #[] #[.pointer (some ⟨g,0,none⟩)]] w fun e w'=>e=.returned (.int .i64 (bB (aR n) xs))∧Below w.heap.size w w':=by
 obtain ⟨A,c,rfl⟩:=Sl.len' h;have H:=hid h;have HG:=hid (And.intro hg hgl);clear h hg hgl;go_enter Tryz.func206,Tryz.ntmps206;go_wp2_with fail;go_loopw [8] (fun i wr=>∃ k:Nat,k≤xs.length∧i=.int .i64 k∧(∀ j (h:j<xs.length),j<k→aR n xs[j]=false)∧Below w.heap.size w wr) (fun i _=>xs.length - (intOf i).toNat)
 case atStart=>exact ⟨0,Nat.zero_le _,rfl,fun _ _ h=>absurd h (Nat.not_lt_zero _),Below.refl _ _⟩
 case round=>
  obtain ⟨k,hk,rfl,hno,hb⟩:=hrel;have HN:=hid hno;have HB:=hid hb;clear hno hb;by_cases hlt:k<xs.length
  ·obtain ⟨b,off,c',he,hbl,hcells⟩:=(H.out.keep HB.out).at1 hlt;injection he with he1 he2 he3
   subst he1 he3;have hk0:(0:Int)≤(k:Int):=by omega
   have hk1:(k:Int)<(xs.length:Int):=by omega
   have HI:=hid (show aR n xs[k]=true→bB (aR n) xs=k from fun h=>eR hlt h HN.out);have HU:=hid (show aR n xs[k]=false→∀ j (h:j<xs.length),j<k+1→aR n xs[j]=false from fun h=>mX HN.out hlt h);generalize xs[k]=x at *;have e0:wr.cell? ⟨b,off+k * 7,none⟩=some (.int .i64 x.1.mode):=hcells 0 _ rfl;have e1:wr.cell? ⟨b,off+k * 7+1,none⟩=some (.int .i64 x.1.pages):=hcells 1 _ rfl;have e2:wr.cell? ⟨b,off+k * 7+2,none⟩=some (.int .i64 x.1.trunk):=hcells 2 _ rfl;have e3:wr.cell? ⟨b,off+k * 7+3,none⟩=some (.int .i64 x.1.spare):=hcells 3 _ rfl;have e4:wr.cell? ⟨b,off+k * 7+4,none⟩=some (.int .i64 x.1.root):=hcells 4 _ rfl;have e5:wr.cell? ⟨b,off+k * 7+5,none⟩=some (.int .u64 x.1.change):=hcells 5 _ rfl;have e6:wr.cell? ⟨b,off+k * 7+6,none⟩=some (.map (some x.2)):=hcells 6 _ rfl;have HBL:=hid (mH n x g wr ((HB.out.cell (p:=⟨g,0,none⟩) HG.out.2).trans HG.out.1) (Nat.lt_of_lt_of_le HG.out.2 HB.out.size));unfold pq at HBL;clear hcells;go_wp2_with fail;refine HBL.out.mono ?_;rintro e w' ⟨rfl,hb⟩;have HB2:=hid (HB.out.trans (hb.mono HB.out.size));clear hb;cases hx:aR n x
   ·have HX:=hid (HU.out hx);go_wp2_with fail;go_roundw
    case rel=>exact ⟨k+1,by omega,by go_num,HX.out,HB2.out⟩
    case measure=>simp [intOf];omega
   ·have HX:=hid (HI.out hx);go_wp2_with fail;go_ret;exact ⟨by rw [HX.out];rfl,HB2.out⟩
  ·have HX:=hid (dR (p:=aR n) hlt HN.out);go_wp2_with fail;go_ret;exact ⟨by rw [HX.out];rfl,HB.out⟩
theorem jb (n:Nat) (g:Nat) (v:Value) (xs:List (He × Nat)) (w:World) (h:Sl je 7 w v xs) (hl:xs.length≤1000000) (hg:w.cell? ⟨g,0,none⟩=some (.int .i64 n)) (hgl:g<w.heap.size):
  Calls Tryz.prog 147 #[v,.func (Fn.func 148) #[] #[.pointer (some ⟨g,0,none⟩)]] w fun e w'=>e=.returned (.bool (xs.any (aR n)))∧Below w.heap.size w w':=by
 go_enter Tryz.func147,Tryz.ntmps147;go_wp2_with fail;refine (my n g v xs w h hl hg hgl).mono ?_;rintro e w' ⟨rfl,hb⟩;have HB:=hid hb;clear hb;have HF:=hid (eQ (aR n) xs);generalize bB (aR n) xs=m at *;go_wp2_with fail;go_ret;exact ⟨by rw [← HF.out];rfl,HB.out⟩
def Pgr.restore (P:Pgr) (n:Nat) (s:By):Pgr:=if P.work.pages≤n∧P.any n=false then { P with ca:=aD n P.ca } else P.hold n s true
structure CanRestore (P:Pgr) (n:Nat) (s:By):Prop where
 lt:n<4096
 gone:¬ (P.work.pages≤n∧P.any n=false)→(P.gone n s true).length≤1000
 spills:¬ (P.work.pages≤n∧P.any n=false)→bw (P.putc n s true) (P.gone n s true)
theorem kc (n:Nat) (s:By) (w:World) {L:PgL} {P:Pgr} (h:PgIs w L P) (hc:CanRestore P n s):
  Calls Tryz.prog 99 #[au L.gp,.int .i64 n,.string (ak s)] w fun e w'=>e=.returned (.int .i64 0)∧PTo w L (P.restore n s) w':=by
 have hA:Below w.heap.size w (w.alloc (.cells #[.int .i64 n] 3)):=(Below.refl _ w).alloc (Nat.le_refl _) _;have hX:(w.alloc (.cells #[.int .i64 n] 3)).heap[w.heap.size]?=some (.cells #[.int .i64 n] 3 (0,0)):=ah rfl;have HA:=hid hA;have HH:=hid (h.below hA);have HX:=hid hX;have HCC:=hid hc;have hnf:¬ L.Fc w.heap.size:=fun e=>by have:=h.calt _ e;omega
 unfold au at *;clear h hc hA hX;go_enter Tryz.func99,Tryz.ntmps99;go_upto_region 1 with fail
 have hw0:∃ w0,w.alloc (.cells #[.int .i64 n] 3)=w0:=⟨_,rfl⟩;obtain ⟨w0,hw0⟩:=hw0;rw [hw0] at HA HH HX ⊢;clear hw0;have HNF:=hid hnf;clear hnf;have hC:=ai HH.out.blk;have hl:=hC.lt;have x0:=aa HX.out 0;have xl:=af HX.out;simp only [List.getElem?_toArray,List.getElem?_cons_zero] at x0;have c16:=hC.c16;clear hC;by_cases hp:P.work.pages≤n
 ·have hp1:(P.work.pages:Int)≤(n:Int):=by omega
  obtain ⟨A,c,hv,-⟩:=ey HH.out.sv;have hzl:((P.saves.map (·.head)).zip L.gs).length=P.saves.length:=by rw [List.length_zip,List.length_map,HH.out.sv.len,Nat.min_self]
  have hn16:=HH.out.ok.nos;have HCT:=hid (jb n w.heap.size L.vs ((P.saves.map (·.head)).zip L.gs) w0.drew ((HH.out.below ((Below.refl w0.heap.size w0).drew)).sv.row.sl cN) (by rw [hzl];omega) x0 xl);rw [jK n HH.out.sv.len,show P.saves.any (kx n)=P.any n from rfl,hv] at HCT;have c21:=(ai HH.out.blk).c21;have d21:w0.drew.cell? ⟨L.gp,21,none⟩=some L.vs:=c21;have dl:L.gp<w0.drew.heap.size:=hl;rw [hv] at c21 d21;obtain ⟨q,hq⟩:∃ q,P.any n=q:=⟨_,rfl⟩;rw [hq] at HCT;have HQ:=hid (And.intro hq hp);clear hv hzl hn16 hq hp;go_wp2_with fail;go_region;go_wp2_with fail;refine HCT.out.mono ?_;rintro e w2 ⟨rfl,hb2⟩;have HB2:=hid (show Below w0.heap.size w0 w2 from ((Below.refl w0.heap.size w0).drew).trans hb2);have HP2:=hid (HH.out.below HB2.out);have e0:=(HB2.out.cell (p:=⟨w.heap.size,0,none⟩) xl).trans x0;have el:=Nat.lt_of_lt_of_le xl HB2.out.size;have hC2:=ai HP2.out.blk;have e1:=hC2.c1;have ell:=hC2.lt;clear hb2 hC2 c21 d21 dl c16 x0 xl hl;cases q
  ·have HAP:=hid (HP2.out.apart);obtain ⟨gc,hvc⟩:=HP2.out.ca.ptr;have HFG:=hid (fun (wx:World) (hx:Below w2.heap.size w2 wx)=>jI n wx (HP2.out.below hx).ca (cR (by have:=HCC.out.lt;omega)))
   have HPP:=hid (show ∀ wx w',Below w2.heap.size w2 wx→Ca w' L.Fc L.vc P.size (aD n P.ca)→Ch L.Fc wx w'→PTo w L (P.restore n s) w' from fun wx w' hx h1 h2=>by
    have e:P.restore n s={ P with ca:=aD n P.ca }:=by unfold Pgr.restore;rw [if_pos ⟨HQ.out.2,HQ.out.1⟩]
    rw [e];exact PTo.pre (PTo.pre (PTo.pre ((HP2.out.below hx).getCa h1 h2) hx) HB2.out) HA.out)
   rw [hvc] at HFG HPP e1;have f1:w2.drew.cell? ⟨L.gp,1,none⟩=some (.pointer (some gc)):=e1;have f0:w2.drew.cell? ⟨w.heap.size,0,none⟩=some (.int .i64 n):=e0;have HF1:=hid (And.intro f1 f0);have HARM:=hid (show ∀ w3,Ca w3 L.Fc (.pointer (some gc)) P.size (aD n P.ca)→Ch L.Fc w2.drew w3→Hid (PTo w L (P.restore n s) w3)∧w3.cell? ⟨L.gp,1,none⟩=some (.pointer (some gc))∧w3.cell? ⟨w.heap.size,0,none⟩=some (.int .i64 n) from fun w3 h1 h2=>
    ⟨hid (HPP.out _ w3 ((Below.refl w2.heap.size w2).drew) h1 h2),h2.cell HF1.out.1 (fun e=>HAP.out.pc e),h2.cell HF1.out.2 (fun e=>HNF.out e)⟩)
   clear f1 f0;go_wp2_with fail
   go_region_held3 (fun w'=>w'.cell? ⟨L.gp,1,none⟩=some (.pointer (some gc))∧w'.cell? ⟨w.heap.size,0,none⟩=some (.int .i64 n)) (first | exact ⟨d1,d0⟩ | exact ⟨e1,e0⟩)
    (first
     | (go_at_call 115;(with_reducible refine (HFG.out _ ?ba).mono ?_);(case ba=>exact (Below.refl w2.heap.size w2).drew);rintro e w3 ⟨rfl,h1,h2⟩;obtain ⟨HR3,d1,d0⟩:=HARM.out w3 h1 h2;clear h1 h2))
   go_wp2_with fail;go_ret;exact ⟨rfl,HR3.out⟩
  ·have HNO:=hid (show ¬ (P.work.pages≤n∧P.any n=false) from fun h=>by rw [HQ.out.1] at h;cases h.2);have HHD:=hid (bX n s true w2 (HH.out.below HB2.out) HCC.out.lt (HCC.out.gone HNO.out) (HCC.out.spills HNO.out));unfold au at HHD;have HBH:=hid HB2.out;go_wp2_with fail;refine HHD.out.mono ?_;rintro e w9 ⟨rfl,hr⟩;have HRR:=hid (show PTo w L (P.restore n s) w9 from by unfold Pgr.restore;rw [if_neg HNO.out];exact PTo.pre (PTo.pre hr HBH.out) HA.out);clear hr;go_wp2_with fail;go_ret;exact ⟨rfl,HRR.out⟩
 ·have hp1:(n:Int)<(P.work.pages:Int):=by omega
  have HNO:=hid (show ¬ (P.work.pages≤n∧P.any n=false) from fun h=>hp h.1);clear hp;go_wp2_with fail;go_region;have x0':w0.drew.cell? ⟨w.heap.size,0,none⟩=some (.int .i64 n):=x0;have xl':w.heap.size<w0.drew.heap.size:=xl;have HHD:=hid (bX n s true w0.drew (HH.out.below ((Below.refl w0.heap.size w0).drew)) HCC.out.lt (HCC.out.gone HNO.out) (HCC.out.spills HNO.out));unfold au at HHD;have HBH:=hid ((Below.refl w0.heap.size w0).drew);go_wp2_with fail;refine HHD.out.mono ?_;rintro e w9 ⟨rfl,hr⟩;have HRR:=hid (show PTo w L (P.restore n s) w9 from by unfold Pgr.restore;rw [if_neg HNO.out];exact PTo.pre (PTo.pre hr HBH.out) HA.out);clear hr;go_wp2_with fail;go_ret;exact ⟨rfl,HRR.out⟩
end Go.Proofs.YtdmhbgpejppbkaaGreat
