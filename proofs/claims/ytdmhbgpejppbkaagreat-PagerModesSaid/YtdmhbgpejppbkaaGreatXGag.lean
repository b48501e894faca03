/- spare.Decode: the trunk of a page. The ring of a cache: entries, each between the one used ahead of it and the one used behind it; plain. -/
import Derived.Test.YtdmhbgpejppbkaaGreatXGaf
import Derived.Test.YtdmhbgpejppbkaaGreatRows
import Derived.Deep.RegionHeld3
import Derived.WalkKit
set_option maxRecDepth 100000
set_option maxHeartbeats 1000000
namespace Go.Proofs.YtdmhbgpejppbkaaGreat
open Go.Lib (hid)
open Go.RowKit
theorem zK {a b:ByteArray} (h:¬ a=b):(a.toList == b.toList)=false:=by rw [beq_eq_false_iff_ne,ByteArray.toList_eq,ByteArray.toList_eq];exact fun e=>h (ix e)
def oJ (l:List UInt8):Nat:=eE (l.take 4)
theorem yt (l:List UInt8):oJ l<4294967296:=
 Nat.lt_of_lt_of_le (sS _) (Nat.le_trans (Nat.pow_le_pow_right (by decide) (show (l.take 4).length≤4 by rw [List.length_take];omega)) (by decide))
theorem jY (i:Nat) (s:ByteArray) (gb:Nat) (w:World) (h:w.heap[gb]?=some (.cells #[.string s] 9 (0,0))) (hi:i+4≤s.size) (hl:s.size≤1000000):
  Calls Tryz.prog 233 #[.int .i64 i,.pointer (some ⟨gb,0,none⟩)] w fun e w'=>e=.returned (.int .i64 (oJ ((bs s).drop i)))∧Below w.heap.size w w':=by
 have c0:=aa h 0;have hlt:=ab h;simp only [List.getElem?_toArray,List.getElem?_cons_zero] at c0;go_enter Tryz.func233,Tryz.ntmps233;have h1:(i:Int)+4≤(s.size:Int):=by omega
 have h2:(0:Int)≤(i:Int):=by omega
 have hz:(s.extract i (i+4)).size=4:=by have hbs:=jS s;rw [← jS,iy,List.length_take,List.length_drop];omega
 have HN:=hid (show eE (bs (s.extract i (i+4)))=oJ ((bs s).drop i) by
  rw [iy,show i+4 - i=4 by omega];rfl)
 have hw:((oJ ((bs s).drop i):Nat):Int)<4294967296:=by have:=yt ((bs s).drop i);omega
 have HZ:=hid hz;clear hz;go_wp2_with fail;refine (eF (s.extract i (i+4)) w (by rw [HZ.out];omega) (by rw [HZ.out];omega)).mono ?_;rw [HN.out];rintro e w1 ⟨rfl,hb⟩;have HB:=hid hb;clear hb;go_wp2_with fail;go_ret;exact ⟨rfl,HB.out⟩
def bt (l:List UInt8):Tk:=⟨oJ (l.drop 1),(List.range (min (l.getD 5 0).toNat 50)).map fun i=>(oJ (l.drop (6+4 * i)):Int)⟩
def cT (l:List UInt8):Bool:=!bE (bt l) && aT (eG (bt l)) == l
def iZ (l:List UInt8):Int:=if cT l then 0 else 4
def cS (l:List UInt8):Tk:=if cT l then bt l else ⟨0,[]⟩
def Cj (base:Nat) (w:World) (v:Value) (t:Tk):Prop:=∃ lv,v=.agg #[.int .i64 t.next,lv]∧Own iC 1 3 base w lv t.list
theorem Own.base {α:Type} {f:α→List Value} {size:Nat} {e:TypeId} {b b':Nat} {w:World} {v:Value} {xs:List α} (h:Own f size e b w v xs) (hb:b'≤b):Own f size e b' w v xs:=
 ⟨h.1,h.2.imp id fun ⟨g,cap,cur,h1,h2,h3⟩=>⟨g,cap,cur,h1,by omega,h3⟩⟩
theorem zC:ElemT Tryz.prog 30 3 iC 1 8:=
 ElemT.mk' (z:=.int .i64 0) Tryz.underlying30 (by kernel_rfl) (by rfl) (by omega) dF (by intro x u hu;simp [iC] at hu;subst hu;rfl)
theorem ve {l:List UInt8} {k:Nat} (h:k<min (l.getD 5 0).toNat 50):(bt l).list.take (k+1)=(bt l).list.take k ++ [(oJ (l.drop (6+4 * k)):Int)]:=by rw [List.take_succ_eq_append_getElem (by simp only [bt,List.length_map,List.length_range];exact h)];simp [bt]
theorem xh (l:List UInt8):(bt l).list.length=min (l.getD 5 0).toNat 50:=by simp [bt]
theorem db {w:World} {g:Nat} {n:Int} {lv:Value} (h:w.heap[g]?=some (.cells #[.int .i64 n,lv] 164 (0,0))):w.cell? ⟨g,0,none⟩=some (.int .i64 n)∧w.cell? ⟨g,1,none⟩=some lv∧w.frozen? ⟨g,0,none⟩=false∧w.frozen? ⟨g,1,none⟩=false∧g<w.heap.size:=
 ⟨aa h 0,aa h 1,ah h 0,ah h 1,ab h⟩
theorem oj {w:World} {g:Nat} {n:Int} {lv:Value} (h:w.heap[g]?=some (.cells #[.int .i64 n,lv] 164 (0,0))):w.cell? ⟨g,1,none⟩=some lv∧w.frozen? ⟨g,1,none⟩=false∧g<w.heap.size:=
 ⟨aa h 1,ah h 1,ab h⟩
theorem ov (s:ByteArray) (w:World) (hs:s.size=232):
  Calls Tryz.prog 197 #[.string s] w fun e w'=>∃ v,e=.returned (.tuple #[v,.int .i64 (iZ (bs s))])∧Cj w.heap.size w' v (cS (bs s))∧Below w.heap.size w w':=by
 have hbs:=jS s;go_enter Tryz.func197,Tryz.ntmps197;have h1:(s.size:Int)=232:=by omega
 go_wp2_with fail;refine (jY 1 s w.heap.size _ (ar (af rfl) _) (by omega) (by omega)).mono ?_;rintro e w1 ⟨rfl,hb1⟩;have HX:=hid (aB (ar (af (w0:=w) (o:=.cells #[.string s] 9) rfl) (.cells #[.int .i64 0,.slice none 0 0] 164)) hb1);have HR:=hid (aB (af (w0:=w.alloc (.cells #[.string s] 9)) (g:=w.heap.size+1) (o:=.cells #[.int .i64 0,.slice none 0 0] 164) (by simp)) hb1);have HB1:=hid ((((Below.refl _ w).alloc (Nat.le_refl _) (.cells #[.string s] 9)).alloc (by simp) (.cells #[.int .i64 0,.slice none 0 0] 164)).trans (hb1.mono (by simp;omega)));have hz1:w.heap.size+1<w1.heap.size:=ab HR.out;have hz0:w.heap.size<w1.heap.size:=ab HX.out;obtain ⟨nx,hnx⟩:∃ nx:Int,nx=(bt (bs s)).next:=⟨_,rfl⟩
 rw [show ((oJ ((bs s).drop 1):Nat):Int)=nx from hnx.symm];have HNX:=hid hnx;clear hnx;clear hb1;have c0:=aa HX.out 0;simp only [List.getElem?_toArray,List.getElem?_cons_zero] at c0;have hs5:s[5]'(by omega)=(bs s).getD 5 0:=by rw [List.getD_eq_getElem?_getD,List.getElem?_eq_getElem (by omega),Option.getD_some];rfl
 obtain ⟨N,hN⟩:∃ N:Nat,N=min ((bs s).getD 5 0).toNat 50:=⟨_,rfl⟩;have hN2:min ((((bs s).getD 5 0).toNat:Nat):Int) 50=(N:Int):=by omega
 have hN50:N≤50:=by omega
 have HDT:=hid (fun (k:Nat) (h:k<N)=>ve (l:=bs s) (k:=k) (by rw [← hN];exact h));have HDL:=hid (show (bt (bs s)).list.length=N by rw [xh,hN]);clear hN;generalize (bs s).getD 5 0=b5 at *;have hb5:(b5.toNat:Int)≤255:=by have:=b5.toNat_lt;omega
 go_wp2_with fail;have HI:=hid (show ∃ lv,(w1.alloc (.cells #[.int .i64 nx,.slice none 0 0] 164)).heap[w1.heap.size]?=some (.cells #[.int .i64 nx,lv] 164 (0,0))∧
   Own iC 1 3 (w1.heap.size+1) (w1.alloc (.cells #[.int .i64 nx,.slice none 0 0] 164)) lv ((bt (bs s)).list.take 0) from ⟨_,af rfl,Own.nil⟩)
 have HB2:=hid ((Below.refl _ w1).alloc (Nat.le_refl _) (.cells #[.int .i64 nx,.slice none 0 0] 164));go_loopw [21] (fun iv wr=>∃ k:Nat,k≤N∧iv=.int .i64 k∧(∃ lv,wr.heap[w1.heap.size]?=some (.cells #[.int .i64 nx,lv] 164 (0,0))∧Own iC 1 3 (w1.heap.size+1) wr lv ((bt (bs s)).list.take k))∧Below w1.heap.size w1 wr) (fun iv _=>N - (intOf iv).toNat)
 case atStart=>exact ⟨0,Nat.zero_le _,rfl,HI.out,HB2.out⟩
 case round=>
  obtain ⟨k,hk,rfl,⟨lv,hg,ho⟩,hb⟩:=hrel;have HG:=hid hg;have HO:=hid ho;have HB:=hid hb;have HXR:=hid (aB HX.out hb);obtain ⟨A,c,rfl⟩:=Sl.len' (ho.sl dF);clear HI HB2;have HLN:=hid (show ((bt (bs s)).list.take k).length≤50 by rw [List.length_take];omega);by_cases hlt:k<N
  ·have hk0:(0:Int)≤(k:Int):=by omega
   have hk1:(k:Int)<(N:Int):=by omega
   have HT:=hid (HDT.out k hlt);have HAT:=hid (fun (W:World) (h:W.heap[w.heap.size]?=some (.cells #[.string s] 9 (0,0)))=>jY (6+4 * k) s w.heap.size W h (by omega) (by omega));rw [show (((6+4 * k:Nat)):Int)=6+4 * (k:Int) by omega] at HAT;clear hg ho hb;generalize (bt (bs s)).list.take k=P at *;generalize (oJ ((bs s).drop (6+4 * k)):Int)=x at *;go_upto_region 8 with fail
   have nA:IntKind.i64.wrap (4 * (k:Int))=4 * (k:Int):=IntWalk.i64_in _ (by omega);have nB:IntKind.i64.wrap (6+4 * (k:Int))=6+4 * (k:Int):=IntWalk.i64_in _ (by omega);obtain ⟨e1,f1,l1⟩:=oj HG.out;go_region_law (first
     | (refine dh (by rfl) (by rfl) zC (by rfl) (by rfl) ((HO.out.below HB3.out).alloc _) (Sl.one x (by simp) dF (by rfl)) (by have:=HLN.out;simp [maxLen];omega) (by have:=HLN.out;simp;omega) (by have:=ab HG3.out;simp;omega) ?_
        intro v' w5 ho hg hat;obtain ⟨A5,c5,h5⟩:=Sl.len' (ho.sl dF);simp only [List.length_append,List.length_cons,List.length_nil,Nat.zero_add] at h5;subst h5;have HO5:=hid ho;have HG5:=hid (show w5.heap[w1.heap.size]?=_ from (hg.block _ (by simp;have:=ab HG3.out;omega) (fun e=>by have:=(HO.out.lt _ e.symm).1;omega)).trans (ar HG3.out _));have HB5:=hid (nY ((HB.out.trans (HB3.out.mono HB.out.size)).alloc (by have:=ab HG3.out;omega) _) hg (by simp;have:=ab HG3.out;omega) (fun j hj=>by have:=(HO.out.lt j hj).1;omega));obtain ⟨e5,f5,l5⟩:=oj HG5.out;clear ho hg hat)
     | (go_simp
        go_at_call 233;refine (HAT.out wr.drew HXR.out).mono ?_;rintro e w3 ⟨rfl,hb3⟩;have HB3:=hid (((Below.refl _ wr).drew).trans hb3);have HG3:=hid (aB HG.out HB3.out);obtain ⟨e3,f3,l3⟩:=oj HG3.out;clear hb3))
   all_goals
    clear nA nB e1 f1 l1 e5 f5 l5 e3 f3 l3;go_wp2_with fail;go_roundw
    case rel=> refine ⟨k+1,by omega,by go_num,⟨_,ae HG5.out 1 _,?_⟩,HB5.out.setCell (Nat.le_refl _) _⟩;rw [HT.out];exact HO5.out.ch ((Ch.refl (fun j=>j=w1.heap.size) w5).setCell (p:=⟨w1.heap.size,1,none⟩) rfl _) (fun j hj e=>by have:=(HO5.out.lt j hj).1;omega)
    case measure=>simp [intOf];omega
  ·have HTE:=hid (show (bt (bs s)).list.take k=(bt (bs s)).list from List.take_of_length_le (by rw [HDL.out];omega));rw [HTE.out] at HO;have HT:=hid (show bt (bs s)=⟨nx,(bt (bs s)).list⟩ by rw [HNX.out]);have hc1:=aa HG.out 1;rw [HTE.out] at hc1;have hc0:=aa HG.out 0;have hgl:=ab HG.out;have cx:=aa HXR.out 0;have hxl:=ab HXR.out;have HRR:=hid (aB HR.out HB.out);have HLL:=hid (show (bt (bs s)).list.length≤1000000 by rw [HDL.out];omega);clear hg ho hb HLN HTE HG HDL HDT HXR;simp only [List.getElem?_toArray,List.getElem?_cons_succ,List.getElem?_cons_zero] at hc0 hc1 cx;generalize (bt (bs s)).list=P at *;go_wp2_with fail;refine (iF ⟨nx,P⟩ _ wr (HO.out.sl dF) HLL.out).mono ?_;rintro e w3 ⟨rfl,hb3⟩;have HB3:=hid hb3;have HR3:=hid (aB HRR.out hb3);have hc0:=(hb3.cell (p:=⟨w1.heap.size,0,none⟩) hgl).trans hc0;have hc1:=(hb3.cell (p:=⟨w1.heap.size,1,none⟩) hgl).trans hc1;have cx:=(hb3.cell (p:=⟨w.heap.size,0,none⟩) hxl).trans cx;have hgl:=Nat.lt_of_lt_of_le hgl hb3.size;have hxl:=Nat.lt_of_lt_of_le hxl hb3.size;obtain ⟨r0,r1,r2,r3,r4⟩:=db HR3.out;clear hb3;have HBF:=hid (HB1.out.trans ((HB.out.trans (HB3.out.mono HB.out.size)).mono HB1.out.size));have HD:=hid (show cT (bs s)=(!bE ⟨nx,P⟩ && aT (eG ⟨nx,P⟩) == bs s) by unfold cT;rw [HT.out]);cases hbad:bE ⟨nx,P⟩
   ·rw [show vq ⟨nx,P⟩=.tuple #[.string (aj (aT (eG ⟨nx,P⟩))),.int .i64 0] by unfold vq;rw [hbad];rfl];rw [hbad] at HD;generalize aT (eG ⟨nx,P⟩)=F at *;by_cases hF:F=bs s
    ·have HE:=hid (show iZ (bs s)=0∧cS (bs s)=⟨nx,P⟩ by
      have:cT (bs s)=true:=by rw [HD.out,hF];simp
      unfold iZ cS;rw [if_pos this,if_pos this,HT.out];exact ⟨rfl,rfl⟩)
     clear HD hbad;subst hF;rw [eL];go_wp2_with fail;have hx:=ae (ae HR3.out 0 (.int .i64 nx)) 1 (.slice A P.length c);obtain ⟨q0,q1,-⟩:=db hx;exact bodyPost_ret (v:=.tuple #[.agg #[.int .i64 nx,.slice A P.length c],.int .i64 (iZ (bs s))]) (by rw [HE.out.1];simp [results,Tryz.results197,go_sem,q0,q1]) rfl ⟨_,rfl,by rw [HE.out.2];exact ⟨_,rfl,((HO.out.below HB3.out).ch (((Ch.refl (fun j=>j=w.heap.size+1) w3).setCell (p:=⟨w.heap.size+1,0,none⟩) rfl _).setCell (p:=⟨w.heap.size+1,1,none⟩) rfl _) (fun j hj e=>by have:=(HO.out.lt j hj).1;omega)).base (by omega)⟩,HBF.out.setCell (Nat.le_succ _) _ |>.setCell (Nat.le_succ _) _⟩
    ·have HE:=hid (show iZ (bs s)=4∧cS (bs s)=⟨0,[]⟩ by
      have:¬ cT (bs s)=true:=by rw [HD.out];simp [hF]
      unfold iZ cS;rw [if_neg this,if_neg this];exact ⟨rfl,rfl⟩)
     have hF2:=zK (show ¬ aj F=s from fun h=>hF (by rw [← h,aR]));clear HD hbad hF;go_wp2_with fail;have hx:=ae (ae HR3.out 0 (.int .i64 0)) 1 (.slice none 0 0);obtain ⟨q0,q1,-⟩:=db hx;exact bodyPost_ret (v:=.tuple #[.agg #[.int .i64 0,.slice none 0 0],.int .i64 (iZ (bs s))]) (by rw [HE.out.1];simp [results,Tryz.results197,go_sem,q0,q1]) rfl ⟨_,rfl,by rw [HE.out.2];exact ⟨_,rfl,Own.nil⟩,HBF.out.setCell (Nat.le_succ _) _ |>.setCell (Nat.le_succ _) _⟩
   ·rw [show vq ⟨nx,P⟩=.tuple #[.string (aj []),.int .i64 1] by unfold vq;rw [hbad];rfl];have HE:=hid (show iZ (bs s)=4∧cS (bs s)=⟨0,[]⟩ by
      have:¬ cT (bs s)=true:=by rw [HD.out,hbad];simp
      unfold iZ cS;rw [if_neg this,if_neg this];exact ⟨rfl,rfl⟩)
    clear HD hbad;go_wp2_with fail;have hx:=ae (ae HR3.out 0 (.int .i64 0)) 1 (.slice none 0 0);obtain ⟨q0,q1,-⟩:=db hx;exact bodyPost_ret (v:=.tuple #[.agg #[.int .i64 0,.slice none 0 0],.int .i64 (iZ (bs s))]) (by rw [HE.out.1];simp [results,Tryz.results197,go_sem,q0,q1]) rfl ⟨_,rfl,by rw [HE.out.2];exact ⟨_,rfl,Own.nil⟩,HBF.out.setCell (Nat.le_succ _) _ |>.setCell (Nat.le_succ _) _⟩
structure En where
 n:Int
 s:ByteArray
 d:Bool
 o:Nat
 x:Nat
def setx (E:Nat→En) (g v:Nat):Nat→En:=fun k=>if k=g then { E k with x:=v } else E k
def seto (E:Nat→En) (g v:Nat):Nat→En:=fun k=>if k=g then { E k with o:=v } else E k
theorem fE (E:Nat→En) (g v k:Nat):(setx E g v k).x=if k=g then v else (E k).x:=by unfold setx;split <;> rfl
theorem jp (E:Nat→En) (g v k:Nat):(setx E g v k).o=(E k).o:=by unfold setx;split <;> rfl
theorem fX (E:Nat→En) (g v k:Nat):(seto E g v k).x=(E k).x:=by unfold seto;split <;> rfl
theorem fF (E:Nat→En) (g v k:Nat):(seto E g v k).o=if k=g then v else (E k).o:=by unfold seto;split <;> rfl
def Seg (E:Nat→En):Nat→List Nat→Nat→Prop
 | p,[],q=>(E p).x=q∧(E q).o=p
 | p,g :: gs,q=>(E p).x=g∧(E g).o=p∧Seg E g gs q
theorem Seg.congr {E E':Nat→En}:∀ {p:Nat} {gs:List Nat} {q:Nat},Seg E p gs q→(∀ g ∈ p :: gs,(E' g).x=(E g).x)→(∀ g ∈ gs ++ [q],(E' g).o=(E g).o)→Seg E' p gs q
 | p,[],q,h,hx,ho=>⟨by rw [hx p (by simp)];exact h.1,by rw [ho q (by simp)];exact h.2⟩
 | p,g :: gs,q,h,hx,ho=>⟨by rw [hx p (by simp)];exact h.1,by rw [ho g (by simp)];exact h.2.1,h.2.2.congr (fun k hk=>hx k (List.mem_cons_of_mem _ hk)) (fun k hk=>ho k (List.mem_cons_of_mem _ hk))⟩
theorem Seg.first {E:Nat→En}:∀ {p:Nat} {gs:List Nat} {q:Nat},Seg E p gs q→(E p).x=(gs ++ [q]).head (by simp)
 | _,[],_,h=>h.1
 | _,_ :: _,_,h=>h.1
theorem Seg.last {E:Nat→En}:∀ {p:Nat} {gs:List Nat} {q:Nat},Seg E p gs q→(E q).o=(p :: gs).getLast (by simp)
 | _,[],_,h=>h.2
 | _,g :: gs,_,h=>by rw [List.getLast_cons (by simp)];exact h.2.2.last
theorem Seg.split {E:Nat→En} {g q:Nat} {bs:List Nat}:∀ {p:Nat} {xs:List Nat},Seg E p (xs ++ g :: bs) q→Seg E p xs g∧Seg E g bs q
 | _,[],h=>⟨⟨h.1,h.2.1⟩,h.2.2⟩
 | _,_ :: _,h=>⟨⟨h.1,h.2.1,h.2.2.split.1⟩,h.2.2.split.2⟩
theorem Seg.out {E:Nat→En} {g q:Nat} {bs:List Nat} (hq:q ∉ bs) (hgq:g≠q):∀ {p:Nat} {xs:List Nat},Seg E p (xs ++ g :: bs) q→(p :: (xs ++ g :: bs)).Nodup→q ∉ xs→
  Seg (seto (setx E (E g).o (E g).x) (E g).x (E g).o) p (xs ++ bs) q
 | p,[],h,hn,_=>by
   obtain ⟨h1,h2,h3⟩:=h;simp only [List.nil_append] at hn ⊢;rw [List.nodup_cons,List.nodup_cons] at hn;obtain ⟨n1,n2,n3⟩:=hn;rw [h2];cases bs with
   | nil=> obtain ⟨h4,h5⟩:=h3;rw [h4];exact ⟨by rw [fX,fE,if_pos rfl],by rw [fF,if_pos rfl]⟩
   | cons b bs=>
     obtain ⟨h4,h5,h6⟩:=h3;rw [h4];refine ⟨by rw [fX,fE,if_pos rfl],by rw [fF,if_pos rfl],h6.congr (fun k hk=>?_) (fun k hk=>?_)⟩
     ·rw [fX,fE,if_neg];rintro rfl;exact n1 (List.mem_cons_of_mem _ hk)
     ·rw [fF,jp,if_neg];rintro rfl;rcases List.mem_append.1 hk with hk | hk
      ·exact (List.nodup_cons.1 n3).1 hk
      ·simp at hk;subst hk;exact hq (by simp)
 | p,a :: xs,h,hn,hqa=>by
   obtain ⟨h1,h2,h3⟩:=h;simp only [List.cons_append] at hn ⊢;rw [List.nodup_cons] at hn;obtain ⟨n1,n2⟩:=hn;have hsp:=h3.split;have ho:(E g).o ∈ a :: xs:=by rw [hsp.1.last];exact List.getLast_mem _
   have hx:(E g).x ∈ bs ++ [q]:=by rw [hsp.2.first];exact List.head_mem _
   simp only [List.mem_cons,not_or] at hqa;refine ⟨?_,?_,Seg.out hq hgq h3 n2 hqa.2⟩
   ·rw [fX,fE,if_neg]
    ·exact h1
    ·rintro rfl;exact n1 (by rcases List.mem_cons.1 ho with h | h <;> simp [h])
   ·rw [fF,jp,if_neg]
    ·exact h2
    ·intro e;rw [← e] at hx;rcases List.mem_append.1 hx with hx | hx
     ·exact (List.nodup_cons.1 n2).1 (by simp [hx])
     ·simp at hx;exact hqa.1 hx.symm
theorem Seg.use {E:Nat→En} {g q:Nat} (hgq:g≠q):∀ {p:Nat} {xs:List Nat},Seg E p xs q→(p :: xs).Nodup→q ∉ xs→g ∉ p :: xs→
  Seg (seto (setx (setx (seto E g (E q).o) g q) (E q).o g) q g) p (xs ++ [g]) q
 | p,[],h,hn,hqa,hg=>by
   obtain ⟨h1,h2⟩:=h;simp only [List.mem_cons,List.not_mem_nil,or_false] at hg;rw [h2];refine ⟨by rw [fX,fE,if_pos rfl],?_,?_,by rw [fF,if_pos rfl]⟩
   ·rw [fF,if_neg hgq,jp,jp,fF,if_pos rfl]
   ·rw [fX,fE,if_neg hg,fE,if_pos rfl]
 | p,a :: xs,h,hn,hqa,hg=>by
   obtain ⟨h1,h2,h3⟩:=h;rw [List.nodup_cons] at hn;obtain ⟨n1,n2⟩:=hn;have ho:(E q).o ∈ a :: xs:=by rw [h3.last];exact List.getLast_mem _
   simp only [List.mem_cons,not_or] at hqa hg;refine ⟨?_,?_,Seg.use hgq h3 n2 hqa.2 (by simp only [List.mem_cons,not_or];exact hg.2)⟩
   ·rw [fX,fE,if_neg,fE,if_neg (fun e=>hg.1 e.symm),fX]
    ·exact h1
    ·rintro rfl;exact n1 ho
   ·rw [fF,if_neg (fun e=>hqa.1 e.symm),jp,jp,fF,if_neg (fun e=>hg.2.1 e.symm)];exact h2
end Go.Proofs.YtdmhbgpejppbkaaGreat
