/- spare.Decode: the trunk of a page. A shelf's book: numbers to pages. spare.trunk, spare.lay over a shelf's book. spare.Take over a shelf's book. shelf: New, begin, Get, Put. shelf: New, Head, Arm. What spare.Give comes to, plain. Nodes as bytes, plain. What is done to pages, as programs; chains and trees as programs, plain. -/
import Derived.Test.YtknioodagnjchaaGreatDoorRTSpare
import Derived.Deep.RegionHeld3
import Derived.Maps.OwnOps
import Derived.Maps.Views
import Derived.Maps.OwnSet
import Derived.Deep.RegionWith
set_option maxRecDepth 100000
set_option maxHeartbeats 2000000
namespace Go.Proofs.YtknioodagnjchaaGreatDoor
open Go.Lib (hid)
open Go.RowKit
theorem sW {a b:ByteArray} (h:¬ a=b):(a.toList == b.toList)=false:=by rw [beq_eq_false_iff_ne,ByteArray.toList_eq,ByteArray.toList_eq];exact fun e=>h (mn e)
def kg (l:List UInt8):Nat:=bM (l.take 4)
theorem rW (l:List UInt8):kg l<4294967296:=
 Nat.lt_of_lt_of_le (fH _) (Nat.le_trans (Nat.pow_le_pow_right (by decide) (show (l.take 4).length≤4 by rw [List.length_take];omega)) (by decide))
theorem jn (i:Nat) (s:ByteArray) (gb:Nat) (w:World) (h:w.heap[gb]?=some (.cells #[.string s] 9 (0,0))) (hi:i+4≤s.size) (hl:s.size≤1000000):
  Calls Tryz.prog 176 #[.int .i64 i,.pointer (some ⟨gb,0,none⟩)] w fun e w'=>e=.returned (.int .i64 (kg ((bs s).drop i)))∧Below w.heap.size w w':=by
 have c0:=ac h 0;have hlt:=aj h;simp only [List.getElem?_toArray,List.getElem?_cons_zero] at c0;go_enter Tryz.func176,Tryz.ntmps176;have h1:(i:Int)+4≤(s.size:Int):=by omega
 have h2:(0:Int)≤(i:Int):=by omega
 have hz:(s.extract i (i+4)).size=4:=by have hbs:=ff s;rw [← ff,ik,List.length_take,List.length_drop];omega
 have HN:=hid (show bM (bs (s.extract i (i+4)))=kg ((bs s).drop i) by
  rw [ik,show i+4 - i=4 by omega];rfl)
 have hw:((kg ((bs s).drop i):Nat):Int)<4294967296:=by have:=rW ((bs s).drop i);omega
 have HZ:=hid hz;clear hz;go_wp2_with fail;refine (eW (s.extract i (i+4)) w (by rw [HZ.out];omega) (by rw [HZ.out];omega)).mono ?_;rw [HN.out];rintro e w1 ⟨rfl,hb⟩;have HB:=hid hb;clear hb;go_wp2_with fail;go_ret;exact ⟨rfl,HB.out⟩
def cI (l:List UInt8):Tk:=⟨kg (l.drop 1),(List.range (min (l.getD 5 0).toNat 50)).map fun i=>(kg (l.drop (6+4 * i)):Int)⟩
def di (l:List UInt8):Bool:=!bH (cI l) && aD (eV (cI l)) == l
def iE (l:List UInt8):Int:=if di l then 0 else 4
def dU (l:List UInt8):Tk:=if di l then cI l else ⟨0,[]⟩
def tT (base:Nat) (w:World) (v:Value) (t:Tk):Prop:=∃ lv,v=.agg #[.int .i64 t.next,lv]∧Own iC 1 3 base w lv t.list
theorem Own.base {α:Type} {f:α→List Value} {size:Nat} {e:TypeId} {b b':Nat} {w:World} {v:Value} {xs:List α} (h:Own f size e b w v xs) (hb:b'≤b):Own f size e b' w v xs:=
 ⟨h.1,h.2.imp id fun ⟨g,cap,cur,h1,h2,h3⟩=>⟨g,cap,cur,h1,by omega,h3⟩⟩
theorem bt:ElemT Tryz.prog 37 3 iC 1 8:=
 ElemT.mk' (z:=.int .i64 0) Tryz.underlying37 (by kernel_rfl) (by rfl) (by omega) aA (by intro x u hu;simp [iC] at hu;subst hu;rfl)
theorem qc {l:List UInt8} {k:Nat} (h:k<min (l.getD 5 0).toNat 50):(cI l).list.take (k+1)=(cI l).list.take k ++ [(kg (l.drop (6+4 * k)):Int)]:=by rw [List.take_succ_eq_append_getElem (by simp only [cI,List.length_map,List.length_range];exact h)];simp [cI]
theorem rt (l:List UInt8):(cI l).list.length=min (l.getD 5 0).toNat 50:=by simp [cI]
theorem dF {w:World} {g:Nat} {n:Int} {lv:Value} (h:w.heap[g]?=some (.cells #[.int .i64 n,lv] 167 (0,0))):w.cell? ⟨g,0,none⟩=some (.int .i64 n)∧w.cell? ⟨g,1,none⟩=some lv∧w.frozen? ⟨g,0,none⟩=false∧w.frozen? ⟨g,1,none⟩=false∧g<w.heap.size:=
 ⟨ac h 0,ac h 1,ab h 0,ab h 1,aj h⟩
theorem lR {w:World} {g:Nat} {n:Int} {lv:Value} (h:w.heap[g]?=some (.cells #[.int .i64 n,lv] 167 (0,0))):w.cell? ⟨g,1,none⟩=some lv∧w.frozen? ⟨g,1,none⟩=false∧g<w.heap.size:=
 ⟨ac h 1,ab h 1,aj h⟩
theorem lS (s:ByteArray) (w:World) (hs:s.size=232):
  Calls Tryz.prog 140 #[.string s] w fun e w'=>∃ v,e=.returned (.tuple #[v,.int .i64 (iE (bs s))])∧tT w.heap.size w' v (dU (bs s))∧Below w.heap.size w w':=by
 have hbs:=ff s;go_enter Tryz.func140,Tryz.ntmps140;have h1:(s.size:Int)=232:=by omega
 go_wp2_with fail;refine (jn 1 s w.heap.size _ (ai (ag rfl) _) (by omega) (by omega)).mono ?_;rintro e w1 ⟨rfl,hb1⟩;have HX:=hid (ae (ai (ag (w0:=w) (o:=.cells #[.string s] 9) rfl) (.cells #[.int .i64 0,.slice none 0 0] 167)) hb1);have HR:=hid (ae (ag (w0:=w.alloc (.cells #[.string s] 9)) (g:=w.heap.size+1) (o:=.cells #[.int .i64 0,.slice none 0 0] 167) (by simp)) hb1);have HB1:=hid ((((Below.refl _ w).alloc (Nat.le_refl _) (.cells #[.string s] 9)).alloc (by simp) (.cells #[.int .i64 0,.slice none 0 0] 167)).trans (hb1.mono (by simp;omega)));have hz1:w.heap.size+1<w1.heap.size:=aj HR.out;have hz0:w.heap.size<w1.heap.size:=aj HX.out;obtain ⟨nx,hnx⟩:∃ nx:Int,nx=(cI (bs s)).next:=⟨_,rfl⟩
 rw [show ((kg ((bs s).drop 1):Nat):Int)=nx from hnx.symm];have HNX:=hid hnx;clear hnx;clear hb1;have c0:=ac HX.out 0;simp only [List.getElem?_toArray,List.getElem?_cons_zero] at c0;have hs5:s[5]'(by omega)=(bs s).getD 5 0:=by rw [List.getD_eq_getElem?_getD,List.getElem?_eq_getElem (by omega),Option.getD_some];rfl
 obtain ⟨N,hN⟩:∃ N:Nat,N=min ((bs s).getD 5 0).toNat 50:=⟨_,rfl⟩;have hN2:min ((((bs s).getD 5 0).toNat:Nat):Int) 50=(N:Int):=by omega
 have hN50:N≤50:=by omega
 have HDT:=hid (fun (k:Nat) (h:k<N)=>qc (l:=bs s) (k:=k) (by rw [← hN];exact h));have HDL:=hid (show (cI (bs s)).list.length=N by rw [rt,hN]);clear hN;generalize (bs s).getD 5 0=b5 at *;have hb5:(b5.toNat:Int)≤255:=by have:=b5.toNat_lt;omega
 go_wp2_with fail;have HI:=hid (show ∃ lv,(w1.alloc (.cells #[.int .i64 nx,.slice none 0 0] 167)).heap[w1.heap.size]?=some (.cells #[.int .i64 nx,lv] 167 (0,0))∧
   Own iC 1 3 (w1.heap.size+1) (w1.alloc (.cells #[.int .i64 nx,.slice none 0 0] 167)) lv ((cI (bs s)).list.take 0) from ⟨_,ag rfl,Own.nil⟩)
 have HB2:=hid ((Below.refl _ w1).alloc (Nat.le_refl _) (.cells #[.int .i64 nx,.slice none 0 0] 167));go_loopw [21] (fun iv wr=>∃ k:Nat,k≤N∧iv=.int .i64 k∧(∃ lv,wr.heap[w1.heap.size]?=some (.cells #[.int .i64 nx,lv] 167 (0,0))∧Own iC 1 3 (w1.heap.size+1) wr lv ((cI (bs s)).list.take k))∧Below w1.heap.size w1 wr) (fun iv _=>N - (intOf iv).toNat)
 case atStart=>exact ⟨0,Nat.zero_le _,rfl,HI.out,HB2.out⟩
 case round=>
  obtain ⟨k,hk,rfl,⟨lv,hg,ho⟩,hb⟩:=hrel;have HG:=hid hg;have HO:=hid ho;have HB:=hid hb;have HXR:=hid (ae HX.out hb);obtain ⟨A,c,rfl⟩:=Sl.len' (ho.sl aA);clear HI HB2;have HLN:=hid (show ((cI (bs s)).list.take k).length≤50 by rw [List.length_take];omega);by_cases hlt:k<N
  ·have hk0:(0:Int)≤(k:Int):=by omega
   have hk1:(k:Int)<(N:Int):=by omega
   have HT:=hid (HDT.out k hlt);have HAT:=hid (fun (W:World) (h:W.heap[w.heap.size]?=some (.cells #[.string s] 9 (0,0)))=>jn (6+4 * k) s w.heap.size W h (by omega) (by omega));rw [show (((6+4 * k:Nat)):Int)=6+4 * (k:Int) by omega] at HAT;clear hg ho hb;generalize (cI (bs s)).list.take k=P at *;generalize (kg ((bs s).drop (6+4 * k)):Int)=x at *;go_upto_region 8 with fail
   have nA:IntKind.i64.wrap (4 * (k:Int))=4 * (k:Int):=IntWalk.i64_in _ (by omega);have nB:IntKind.i64.wrap (6+4 * (k:Int))=6+4 * (k:Int):=IntWalk.i64_in _ (by omega);obtain ⟨e1,f1,l1⟩:=lR HG.out;go_region_law (first
     | (refine dk (by rfl) (by rfl) bt (by rfl) (by rfl) ((HO.out.below HB3.out).alloc _) (Sl.one x (by simp) aA (by rfl)) (by have:=HLN.out;simp [maxLen];omega) (by have:=HLN.out;simp;omega) (by have:=aj HG3.out;simp;omega) ?_
        intro v' w5 ho hg hat;obtain ⟨A5,c5,h5⟩:=Sl.len' (ho.sl aA);simp only [List.length_append,List.length_cons,List.length_nil,Nat.zero_add] at h5;subst h5;have HO5:=hid ho;have HG5:=hid (show w5.heap[w1.heap.size]?=_ from (hg.block _ (by simp;have:=aj HG3.out;omega) (fun e=>by have:=(HO.out.lt _ e.symm).1;omega)).trans (ai HG3.out _));have HB5:=hid (ef ((HB.out.trans (HB3.out.mono HB.out.size)).alloc (by have:=aj HG3.out;omega) _) hg (by simp;have:=aj HG3.out;omega) (fun j hj=>by have:=(HO.out.lt j hj).1;omega));obtain ⟨e5,f5,l5⟩:=lR HG5.out;clear ho hg hat)
     | (go_simp
        go_at_call 176;refine (HAT.out wr.drew HXR.out).mono ?_;rintro e w3 ⟨rfl,hb3⟩;have HB3:=hid (((Below.refl _ wr).drew).trans hb3);have HG3:=hid (ae HG.out HB3.out);obtain ⟨e3,f3,l3⟩:=lR HG3.out;clear hb3))
   all_goals
    clear nA nB e1 f1 l1 e5 f5 l5 e3 f3 l3;go_wp2_with fail;go_roundw
    case rel=> refine ⟨k+1,by omega,by go_num,⟨_,ah HG5.out 1 _,?_⟩,HB5.out.setCell (Nat.le_refl _) _⟩;rw [HT.out];exact HO5.out.ch ((Ch.refl (fun j=>j=w1.heap.size) w5).setCell (p:=⟨w1.heap.size,1,none⟩) rfl _) (fun j hj e=>by have:=(HO5.out.lt j hj).1;omega)
    case measure=>simp [intOf];omega
  ·have HTE:=hid (show (cI (bs s)).list.take k=(cI (bs s)).list from List.take_of_length_le (by rw [HDL.out];omega));rw [HTE.out] at HO;have HT:=hid (show cI (bs s)=⟨nx,(cI (bs s)).list⟩ by rw [HNX.out]);have hc1:=ac HG.out 1;rw [HTE.out] at hc1;have hc0:=ac HG.out 0;have hgl:=aj HG.out;have cx:=ac HXR.out 0;have hxl:=aj HXR.out;have HRR:=hid (ae HR.out HB.out);have HLL:=hid (show (cI (bs s)).list.length≤1000000 by rw [HDL.out];omega);clear hg ho hb HLN HTE HG HDL HDT HXR;simp only [List.getElem?_toArray,List.getElem?_cons_succ,List.getElem?_cons_zero] at hc0 hc1 cx;generalize (cI (bs s)).list=P at *;go_wp2_with fail;refine (ir ⟨nx,P⟩ _ wr (HO.out.sl aA) HLL.out).mono ?_;rintro e w3 ⟨rfl,hb3⟩;have HB3:=hid hb3;have HR3:=hid (ae HRR.out hb3);have hc0:=(hb3.cell (p:=⟨w1.heap.size,0,none⟩) hgl).trans hc0;have hc1:=(hb3.cell (p:=⟨w1.heap.size,1,none⟩) hgl).trans hc1;have cx:=(hb3.cell (p:=⟨w.heap.size,0,none⟩) hxl).trans cx;have hgl:=Nat.lt_of_lt_of_le hgl hb3.size;have hxl:=Nat.lt_of_lt_of_le hxl hb3.size;obtain ⟨r0,r1,r2,r3,r4⟩:=dF HR3.out;clear hb3;have HBF:=hid (HB1.out.trans ((HB.out.trans (HB3.out.mono HB.out.size)).mono HB1.out.size));have HD:=hid (show di (bs s)=(!bH ⟨nx,P⟩ && aD (eV ⟨nx,P⟩) == bs s) by unfold di;rw [HT.out]);cases hbad:bH ⟨nx,P⟩
   ·rw [show qq ⟨nx,P⟩=.tuple #[.string (al (aD (eV ⟨nx,P⟩))),.int .i64 0] by unfold qq;rw [hbad];rfl];rw [hbad] at HD;generalize aD (eV ⟨nx,P⟩)=F at *;by_cases hF:F=bs s
    ·have HE:=hid (show iE (bs s)=0∧dU (bs s)=⟨nx,P⟩ by
      have:di (bs s)=true:=by rw [HD.out,hF];simp
      unfold iE dU;rw [if_pos this,if_pos this,HT.out];exact ⟨rfl,rfl⟩)
     clear HD hbad;subst hF;rw [mb];go_wp2_with fail;have hx:=ah (ah HR3.out 0 (.int .i64 nx)) 1 (.slice A P.length c);obtain ⟨q0,q1,-⟩:=dF hx;exact bodyPost_ret (v:=.tuple #[.agg #[.int .i64 nx,.slice A P.length c],.int .i64 (iE (bs s))]) (by rw [HE.out.1];simp [results,Tryz.results140,go_sem,q0,q1]) rfl ⟨_,rfl,by rw [HE.out.2];exact ⟨_,rfl,((HO.out.below HB3.out).ch (((Ch.refl (fun j=>j=w.heap.size+1) w3).setCell (p:=⟨w.heap.size+1,0,none⟩) rfl _).setCell (p:=⟨w.heap.size+1,1,none⟩) rfl _) (fun j hj e=>by have:=(HO.out.lt j hj).1;omega)).base (by omega)⟩,HBF.out.setCell (Nat.le_succ _) _ |>.setCell (Nat.le_succ _) _⟩
    ·have HE:=hid (show iE (bs s)=4∧dU (bs s)=⟨0,[]⟩ by
      have:¬ di (bs s)=true:=by rw [HD.out];simp [hF]
      unfold iE dU;rw [if_neg this,if_neg this];exact ⟨rfl,rfl⟩)
     have hF2:=sW (show ¬ al F=s from fun h=>hF (by rw [← h,aW]));clear HD hbad hF;go_wp2_with fail;have hx:=ah (ah HR3.out 0 (.int .i64 0)) 1 (.slice none 0 0);obtain ⟨q0,q1,-⟩:=dF hx;exact bodyPost_ret (v:=.tuple #[.agg #[.int .i64 0,.slice none 0 0],.int .i64 (iE (bs s))]) (by rw [HE.out.1];simp [results,Tryz.results140,go_sem,q0,q1]) rfl ⟨_,rfl,by rw [HE.out.2];exact ⟨_,rfl,Own.nil⟩,HBF.out.setCell (Nat.le_succ _) _ |>.setCell (Nat.le_succ _) _⟩
   ·rw [show qq ⟨nx,P⟩=.tuple #[.string (al []),.int .i64 1] by unfold qq;rw [hbad];rfl];have HE:=hid (show iE (bs s)=4∧dU (bs s)=⟨0,[]⟩ by
      have:¬ di (bs s)=true:=by rw [HD.out,hbad];simp
      unfold iE dU;rw [if_neg this,if_neg this];exact ⟨rfl,rfl⟩)
    clear HD hbad;go_wp2_with fail;have hx:=ah (ah HR3.out 0 (.int .i64 0)) 1 (.slice none 0 0);obtain ⟨q0,q1,-⟩:=dF hx;exact bodyPost_ret (v:=.tuple #[.agg #[.int .i64 0,.slice none 0 0],.int .i64 (iE (bs s))]) (by rw [HE.out.1];simp [results,Tryz.results140,go_sem,q0,q1]) rfl ⟨_,rfl,by rw [HE.out.2];exact ⟨_,rfl,Own.nil⟩,HBF.out.setCell (Nat.le_succ _) _ |>.setCell (Nat.le_succ _) _⟩
end Go.Proofs.YtknioodagnjchaaGreatDoor
namespace Go.Proofs.YtknioodagnjchaaGreatDoor
open Go.Lib (hid)
open Go.RowKit Go.Maps
def sX (v:Value):Option (DataW Unit × List MemPlace):=match v with
 | .string s=>some (.lit (.string (bs s)),[])
 | _=>none
theorem mw {v:Value} {l:List UInt8} {ps:List MemPlace} (h:sX v=some (.lit (.string l),ps)):v=.string (al l):=by
 unfold sX at h
 split at h
 ·simp only [Option.some.injEq,Prod.mk.injEq,DataW.lit.injEq,Lit.string.injEq] at h;rw [← h.1,mb]
 ·cases h
def sL (n:Int):Prop:=(Lit.int .i64 n).wf=true
theorem jy {n:Int} (h0:0≤n) (h1:n<4096):sL n:=WalkArith.wf_i64 (by omega)
abbrev pR (n:Int):Lit:=.int .i64 n
theorem oZ:Keyed Tryz.prog 3:=int_keyed Tryz.underlying3
theorem oX {n:Int} (h:sL n):keyOf Tryz.prog 3 (.int .i64 n)=some (.int .i64 n):=keyOf_int_mk Tryz.underlying3 h
theorem rI (w:World):(zeroValue 9).run Tryz.prog w=.ok (.string ⟨#[]⟩) w:=by kernel_rfl
theorem jF (n:Int):WideAt.IsKeyLit (pR n):=trivial
theorem jG {m n:Int} (h:m≠n):pR m≠pR n:=fun e=>h (by cases e;rfl)
theorem lq:∀ (N:Nat) (K:List Int),K.Nodup→(∀ n ∈ K,0≤n∧n<N)→K.length≤N
 | 0,K,_,h=>by
   cases K with
   | nil=>exact Nat.le_refl _
   | cons a K=>have:=h a List.mem_cons_self;omega
 | N+1,K,hn,h=>by
   have h1:=lq N (K.filter fun n=>!(n == N)) (hn.sublist List.filter_sublist) (fun n hn=>by
    rw [List.mem_filter] at hn;have:=h n hn.1;have h2:n≠N:=by simpa using hn.2
    omega)
   have h2:K.length≤(K.filter fun n=>!(n == (N:Int))).length+1:=by
    have:=hn;clear h1 h
    induction K with
    | nil=>simp
    | cons a K ih=>
      rw [List.nodup_cons] at this;by_cases ha:a=N
      ·subst ha
       rw [List.filter_cons_of_neg (by simp),List.filter_eq_self.2 (fun x hx=>by
        have:x≠N:=fun e=>this.1 (e ▸ hx)
        simpa using this)]
       simp
      ·rw [List.filter_cons_of_pos (by simpa using ha)];simp only [List.length_cons];have:=ih this.2 this.2;omega
   omega
def blankL:List UInt8:=List.replicate 232 0
structure BookOf (D:DataW Unit) (K:List Int) (B:Int→List UInt8):Prop where
 tidy:Tidy D
 nd:K.Nodup
 rng:∀ n ∈ K,0≤n∧n<(4096:Nat)
 yes:∀ n ∈ K,∀ z,D.atKey (pR n) z=.lit (.string (B n))
 no:∀ n,n ∉ K→has D (pR n)=false∧B n=blankL
 size:size D=K.length
def bx (B:Int→List UInt8) (n:Int) (l:List UInt8):Int→List UInt8:=fun m=>if m=n then l else B m
theorem BookOf.put {D:DataW Unit} {K:List Int} {B:Int→List UInt8} (h:BookOf D K B) {n:Int} (h0:0≤n) (h1:n<4096) (s:ByteArray):∃ K',BookOf (D.put (pR n) (.lit (.string (bs s)))) K' (bx B n (bs s)):=by
 by_cases hn:n ∈ K
 ·refine ⟨K,h.tidy.put (jF n) _,h.nd,h.rng,fun m hm z=>?_,fun m hm=>?_,?_⟩
  ·unfold bx;by_cases e:m=n
   ·subst e;rw [if_pos rfl];exact atKey_put_same h.tidy.isMap (jF m) _ _
   ·rw [if_neg e,atKey_put_other (jG e)];exact h.yes m hm z
  ·have e:m≠n:=fun e=>hm (e ▸ hn)
   unfold bx;rw [has_put_other (jG e),if_neg e];exact h.no m hm
  ·rw [size_put h.tidy,has_true_of_atKey (fun z=>h.yes n hn z),if_pos rfl,h.size]
 ·refine ⟨K ++ [n],h.tidy.put (jF n) _,?_,fun m hm=>?_,fun m hm z=>?_,fun m hm=>?_,?_⟩
  ·rw [List.nodup_append];exact ⟨h.nd,by simp,fun a ha b hb e=>by simp at hb;subst e hb;exact hn ha⟩
  ·rcases List.mem_append.1 hm with hm | hm
   ·exact h.rng m hm
   ·rw [List.mem_singleton.1 hm];exact ⟨h0,by omega⟩
  ·unfold bx;rcases List.mem_append.1 hm with hm | hm
   ·have e:m≠n:=fun e=>hn (e ▸ hm)
    rw [if_neg e,atKey_put_other (jG e)];exact h.yes m hm z
   ·rw [List.mem_singleton.1 hm,if_pos rfl];exact atKey_put_same h.tidy.isMap (jF n) _ _
  ·rw [List.mem_append,not_or] at hm;have e:m≠n:=by simpa using hm.2
   unfold bx;rw [has_put_other (jG e),if_neg e];exact h.no m hm.1
  ·rw [size_put h.tidy,(h.no n hn).1,if_neg (by simp),h.size,List.length_append];rfl
def BookIs (w:World) (gm:Nat) (B:Int→List UInt8):Prop:=∃ D K,w.ownsMap Tryz.prog 3 sX gm K.length D∧BookOf D K B
section
variable {w w':World} {gm:Nat} {B:Int→List UInt8}
theorem pN {P:Program} {k:TypeId} {R:Value→Option (DataW Unit × List MemPlace)} {b n m:Nat} {D:DataW Unit} (h:w.ownsMap P k R b n D) (hm:Maps.size D=m):w.ownsMap P k R b m D:=by obtain ⟨es,clock,hb,F,hs,rfl⟩:=h;exact ⟨es,clock,hb,F,by rw [← hm];simp [Maps.size,length_sorted],rfl⟩
theorem BookIs.made (w:World):BookIs (w.alloc (.map #[] 0)) w.heap.size (fun _=>blankL):=
 ⟨_,[],World.ownsMap_made w _ _ _,tidy_empty,List.Pairwise.nil,fun _ h=>absurd h List.not_mem_nil,fun _ h=>absurd h List.not_mem_nil,fun _ _=>⟨rfl,rfl⟩,rfl⟩
theorem BookIs.lt (h:BookIs w gm B):gm<w.heap.size:=let ⟨_,_,h,_⟩:=h;h.lt
theorem BookIs.block (h:BookIs w gm B) (hb:w'.heap[gm]?=w.heap[gm]?):BookIs w' gm B:=by obtain ⟨D,K,⟨es,clock,hh,F,hs,hD⟩,hm⟩:=h;exact ⟨D,K,⟨es,clock,hb.trans hh,F,hs,hD⟩,hm⟩
theorem BookIs.ch {S:Nat→Prop} (h:BookIs w gm B) (hc:Ch S w w') (hn:¬ S gm):BookIs w' gm B:=h.block (hc.block gm h.lt hn)
theorem BookIs.look (h:BookIs w gm B) {n:Int} (hw:sL n):∃ (v:ByteArray) (b:Bool),(Instr.lookup 91 (.map (some gm)) (.int .i64 n) true).run Tryz.prog w=.ok (.tuple #[.string v,.bool b]) w∧(b=true→v=al (B n))∧(b=false→B n=blankL):=by
 obtain ⟨D,K,hown,hm⟩:=h;obtain ⟨v,ps,hrun,hv⟩:=hown.look_ok oZ Tryz.underlying91 (rI w) (zd:=.lit (.string [])) (zp:=[]) rfl (oX hw);by_cases hn:n ∈ K
 ·rw [hm.yes n hn] at hv;have:=mw hv;subst this;exact ⟨_,_,hrun,fun _=>rfl,fun h=>by rw [has_true_of_atKey (fun z=>hm.yes n hn z)] at h;cases h⟩
 ·rw [atKey_of_not_has (hm.no n hn).1] at hv;have:=mw hv;subst this;refine ⟨_,_,hrun,?_⟩;rw [(hm.no n hn).1];exact ⟨fun h=>(by cases h),fun _=>(hm.no n hn).2⟩
theorem BookIs.put (h:BookIs w gm B) {n:Int} (h0:0≤n) (h1:n<4096) (s:ByteArray):
  ∃ w',(Instr.mapUpdate 91 (.map (some gm)) (.int .i64 n) (.string s)).run Tryz.prog w=.ok () w'∧BookIs w' gm (bx B n (bs s))∧w.grownBy w' (some gm):=by
 obtain ⟨D,K,hown,hm⟩:=h;have hl:=lq 4096 K hm.nd hm.rng;obtain ⟨w',hrun,hown',hg⟩:=hown.update oZ Tryz.underlying91 (by simp [maxLen];omega) (oX (jy h0 h1)) (val:=.string s) (d:=.lit (.string (bs s))) (ps:=[]) rfl;obtain ⟨K',hm'⟩:=hm.put h0 h1 s;exact ⟨w',hrun,⟨_,K',pN hown' hm'.size,hm'⟩,hg⟩
end
theorem fC (w:World):Calls Tryz.prog 52 #[] w fun e w'=>e=.returned (.string (al blankL))∧Below w.heap.size w w':=by go_enter Tryz.func52,Tryz.ntmps52;go_wp2_with fail;refine (eX 232 w (by omega)).mono ?_;rintro e w1 ⟨rfl,hb⟩;have HB:=hid hb;clear hb;go_wp2_with fail;go_ret;exact ⟨rfl,HB.out⟩
theorem js (n:Int) (gm:Nat) (B:Int→List UInt8) (w:World) (h:BookIs w gm B) (hw:sL n):
  Calls Tryz.prog 175 #[.map (some gm),.int .i64 n] w fun e w'=>e=.returned (.tuple #[.string (al (B n)),.int .i64 0])∧Below w.heap.size w w':=by
 obtain ⟨v,b,hrun,hy,hn⟩:=h.look hw;go_enter Tryz.func175,Tryz.ntmps175;cases b
 ·have HN:=hid (hn rfl);clear hy hn;go_wp2_with fail;refine (fC w).mono ?_;rintro e w1 ⟨rfl,hb⟩;have HB:=hid hb;clear hb;go_wp2_with fail;go_ret2;rw [HN.out];exact ⟨rfl,HB.out⟩
 ·have HY:=hid (hy rfl);clear hy hn;go_wp2_with fail;go_ret2;rw [← HY.out];exact ⟨rfl,Below.refl _ _⟩
theorem jr (n:Int) (s:ByteArray) (gm:Nat) (B:Int→List UInt8) (w:World) (h:BookIs w gm B) (h0:0≤n) (h1:n<4096):
  Calls Tryz.prog 56 #[.map (some gm),.int .i64 n,.string s] w fun e w'=>e=.returned (.int .i64 0)∧BookIs w' gm (bx B n (bs s))∧Ch (fun k=>k=gm) w w':=by
 obtain ⟨w1,hrun,hb,hg⟩:=h.put h0 h1 s;have HB:=hid hb;have HG:=hid hg;clear hb hg;go_enter Tryz.func56,Tryz.ntmps56;go_wp2_with fail;go_ret;exact ⟨rfl,HB.out,Ch.of_grown HG.out (fun k e=>by cases e;rfl)⟩
end Go.Proofs.YtknioodagnjchaaGreatDoor
namespace Go.Proofs.YtknioodagnjchaaGreatDoor
open Go.Lib (hid)
open Go.RowKit Go.Maps
def iK (l:List UInt8):Int:=if di l then 0 else 30
theorem kV (n:Int) (gm:Nat) (B:Int→List UInt8) (w:World) (h:BookIs w gm B) (hw:sL n) (hl:(B n).length=232):
  Calls Tryz.prog 102 #[.iface 91 (.map (some gm)),.int .i64 n] w fun e w'=>∃ v,e=.returned (.tuple #[v,.int .i64 (iK (B n))])∧tT w.heap.size w' v (dU (B n))∧Below w.heap.size w w':=by
 have HH:=hid h;clear h;go_enter Tryz.func102,Tryz.ntmps102;go_wp2_with fail;refine (js n gm B _ (HH.out.ch (Ch.alloc (Ch.refl (fun _=>False) w) _) id) hw).mono ?_;rintro e w1 ⟨rfl,hb⟩;have HB1:=hid (((Below.refl _ w).alloc (Nat.le_refl _) (.cells #[.int .i64 0,.slice none 0 0] 167)).trans (hb.mono (by simp)));have HR1:=hid (ae (ag (w0:=w) (g:=w.heap.size) (o:=.cells #[.int .i64 0,.slice none 0 0] 167) rfl) hb);clear hb;go_wp2_with fail;refine (lS (al (B n)) w1 (by rw [aq];exact hl)).mono ?_;rw [aW];rintro e w2 ⟨v,rfl,⟨lv,rfl,ho⟩,hb⟩;have HB2:=hid (HB1.out.trans (hb.mono HB1.out.size));have HR2:=hid (ae HR1.out hb);have hw1:=HB1.out.size;have HO:=hid ho;obtain ⟨A,c,rfl⟩:=Sl.len' (ho.sl aA);clear hb ho;have hgl:=aj HR2.out;have hgl1:=aj HR1.out;have HG:=hid (ai HR2.out (.cells #[.int .i64 (dU (B n)).next,.slice A (dU (B n)).list.length c] 167));obtain ⟨r0,r1,r2,r3,r4⟩:=dF HG.out;have HT:=hid (ag (w0:=w2) (g:=w2.heap.size) (o:=.cells #[.int .i64 (dU (B n)).next,.slice A (dU (B n)).list.length c] 167) rfl);obtain ⟨t0,t1,t2,t3,t4⟩:=dF HT.out;have HOA:=hid (HO.out.alloc (.cells #[.int .i64 (dU (B n)).next,.slice A (dU (B n)).list.length c] 167));have HB3:=hid (HB2.out.alloc HB2.out.size (.cells #[.int .i64 (dU (B n)).next,.slice A (dU (B n)).list.length c] 167));go_upto_region 5 with fail
 generalize w2.alloc (.cells #[.int .i64 (dU (B n)).next,.slice A (dU (B n)).list.length c] 167)=w3 at *;generalize w2.heap.size=g2 at *;cases hd:di (B n)
 ·have HE:=hid (show iE (B n)=4∧iK (B n)=30∧dU (B n)=⟨0,[]⟩ by simp [iE,iK,dU,hd]);rw [HE.out.1];go_wp2_with fail;have hx:=ah (ah HG.out 0 (.int .i64 0)) 1 (.slice none 0 0);obtain ⟨q0,q1,-⟩:=dF hx;exact bodyPost_ret (v:=.tuple #[.agg #[.int .i64 0,.slice none 0 0],.int .i64 (iK (B n))]) (by rw [HE.out.2.1];simp [results,Tryz.results102,go_sem,q0,q1]) rfl ⟨_,rfl,by rw [HE.out.2.2];exact ⟨_,rfl,Own.nil⟩,HB3.out.setCell (Nat.le_refl _) _ |>.setCell (Nat.le_refl _) _⟩
 ·have HE:=hid (show iE (B n)=0∧iK (B n)=0 by simp [iE,iK,hd]);rw [HE.out.1];go_wp2_with fail;have hx:=ah (ah HG.out 0 (.int .i64 (dU (B n)).next)) 1 (.slice A (dU (B n)).list.length c);obtain ⟨q0,q1,-⟩:=dF hx
  exact bodyPost_ret (v:=.tuple #[.agg #[.int .i64 (dU (B n)).next,.slice A (dU (B n)).list.length c],.int .i64 (iK (B n))]) (by rw [HE.out.2];simp [results,Tryz.results102,go_sem,q0,q1]) rfl
   ⟨_,rfl,⟨_,rfl,(HOA.out.ch (((Ch.refl (fun j=>j=w.heap.size) _).setCell (p:=⟨w.heap.size,0,none⟩) rfl _).setCell (p:=⟨w.heap.size,1,none⟩) rfl _) (fun j hj e=>by have:=(HO.out.lt j hj).1;omega)).base hw1⟩,HB3.out.setCell (Nat.le_refl _) _ |>.setCell (Nat.le_refl _) _⟩
def ju (t:Tk):Int:=if bH t then 30 else 0
def jv (t:Tk) (B:Int→List UInt8) (n:Int):Int→List UInt8:=if bH t then B else bx B n (aD (eV t))
theorem jD (n:Int) (t:Tk) (v:Value) (gm:Nat) (B:Int→List UInt8) (w:World) (h:BookIs w gm B) (h0:0≤n) (h1:n<4096) (hs:Sl iC 1 w v t.list) (hl:t.list.length≤1000000):
  Calls Tryz.prog 103 #[.iface 91 (.map (some gm)),.int .i64 n,.agg #[.int .i64 t.next,v]] w fun e w'=>e=.returned (.int .i64 (ju t))∧BookIs w' gm (jv t B n)∧Ch (fun k=>k=gm) w w':=by
 have HH:=hid h;have HS:=hid hs;obtain ⟨A,c,rfl⟩:=Sl.len' hs;have hgm:=h.lt;clear h hs;go_enter Tryz.func103,Tryz.ntmps103;go_wp2_with fail;have HA:=hid ((Below.refl _ w).alloc (Nat.le_refl _) (.cells #[.int .i64 t.next,.slice A t.list.length c] 167));refine (ir t _ _ (HS.out.keep HA.out) hl).mono ?_;rintro e w1 ⟨rfl,hb⟩;have HB1:=hid (HA.out.trans (hb.mono HA.out.size));clear hb;cases hbad:bH t
 ·have HE:=hid (show ju t=0∧jv t B n=bx B n (aD (eV t)) by simp [ju,jv,hbad]);rw [show qq t=.tuple #[.string (al (aD (eV t))),.int .i64 0] by unfold qq;rw [hbad];rfl];generalize aD (eV t)=F at *;go_wp2_with fail;refine (jr n (al F) gm B w1 (HH.out.ch (Ch.of_below (S:=fun _=>False) HB1.out) id) h0 h1).mono ?_;rintro e w2 ⟨rfl,hbk,hch⟩;have HBK:=hid hbk;have HCH:=hid ((Ch.of_below (S:=fun k=>k=gm) HB1.out).trans hch);clear hbk hch;go_wp2_with fail;go_ret;exact ⟨by rw [HE.out.1];rfl,by rw [HE.out.2];exact HBK.out,HCH.out⟩
 ·have HE:=hid (show ju t=30∧jv t B n=B by simp [ju,jv,hbad]);rw [show qq t=.tuple #[.string (al []),.int .i64 1] by unfold qq;rw [hbad];rfl];go_wp2_with fail;go_ret;exact ⟨by rw [HE.out.1];rfl,by rw [HE.out.2];exact HH.out.ch (Ch.of_below (S:=fun _=>False) HB1.out) id,Ch.of_below HB1.out⟩
structure Hd where
 mode:Int
 pages:Int
 trunk:Int
 spare:Int
 root:Int
 change:Int
def Hd.zero:Hd:=⟨0,0,0,0,0,0⟩
def Hd.cells (h:Hd):Array Value:=#[.int .i64 h.mode,.int .i64 h.pages,.int .i64 h.trunk,.int .i64 h.spare,.int .i64 h.root,.int .u64 h.change]
def Hd.val (h:Hd):Value:=.agg h.cells
def cQ (h:Hd):Obj:=.cells #[.int .i64 h.mode,.int .i64 h.pages,.int .i64 h.trunk,.int .i64 h.spare,.int .i64 h.root,.int .u64 h.change] 51 (0,0)
theorem au {w:World} {g:Nat} {h:Hd} (hh:w.heap[g]?=some (cQ h)):w.cell? ⟨g,0,none⟩=some (.int .i64 h.mode)∧w.cell? ⟨g,1,none⟩=some (.int .i64 h.pages)∧w.cell? ⟨g,2,none⟩=some (.int .i64 h.trunk)∧
  w.cell? ⟨g,3,none⟩=some (.int .i64 h.spare)∧w.cell? ⟨g,4,none⟩=some (.int .i64 h.root)∧w.cell? ⟨g,5,none⟩=some (.int .u64 h.change)∧g<w.heap.size:=
 ⟨ac hh 0,ac hh 1,ac hh 2,ac hh 3,ac hh 4,ac hh 5,aj hh⟩
theorem aN {w:World} {g:Nat} {h:Hd} (hh:w.heap[g]?=some (cQ h)):w.frozen? ⟨g,0,none⟩=false∧w.frozen? ⟨g,1,none⟩=false∧w.frozen? ⟨g,2,none⟩=false∧w.frozen? ⟨g,3,none⟩=false∧w.frozen? ⟨g,4,none⟩=false∧w.frozen? ⟨g,5,none⟩=false:=
 ⟨ab hh 0,ab hh 1,ab hh 2,ab hh 3,ab hh 4,ab hh 5⟩
def hP (w:World) (g:Nat) (h:Hd):World:=(((((w.setCell ⟨g,0,none⟩ (.int .i64 h.mode)).setCell ⟨g,1,none⟩ (.int .i64 h.pages)).setCell ⟨g,2,none⟩ (.int .i64 h.trunk)).setCell ⟨g,3,none⟩ (.int .i64 h.spare)).setCell ⟨g,4,none⟩ (.int .i64 h.root)).setCell ⟨g,5,none⟩ (.int .u64 h.change)
theorem dL {w:World} {g:Nat} {h0:Hd} (hh:w.heap[g]?=some (cQ h0)) (h:Hd):(hP w g h).heap[g]?=some (cQ h):=ah (ah (ah (ah (ah (ah hh 0 _) 1 _) 2 _) 3 _) 4 _) 5 _
theorem bR {S:Nat→Prop} {a w:World} {g:Nat} (hc:Ch S a w) (hg:S g) (h:Hd):Ch S a (hP w g h):=
 (((((hc.setCell (p:=⟨g,0,none⟩) hg _).setCell (p:=⟨g,1,none⟩) hg _).setCell (p:=⟨g,2,none⟩) hg _).setCell (p:=⟨g,3,none⟩) hg _).setCell (p:=⟨g,4,none⟩) hg _).setCell (p:=⟨g,5,none⟩) hg _
theorem Own.cap {α:Type} {f:α→List Value} {size:Nat} {e:TypeId} {base:Nat} {w:World} {A:Option Addr} {n c:Nat} {xs:List α} (h:Own f size e base w (.slice A n c) xs):n≤c:=by
 rcases h.2 with ⟨hv,h0⟩ | ⟨g,cap,cur,hv,_,_,hn,_⟩
 ·injection hv with _ h1 h2;omega
 ·injection hv with _ h1 h2;omega
theorem Sl.take {α:Type} {f:α→List Value} {size:Nat} {w:World} {a:Addr} {n c:Nat} {xs:List α} (h:Sl f size w (.slice (some a) n c) xs) (k:Nat) (hk:k≤xs.length):Sl f size w (.slice (some a) k c) (xs.take k):=by
 obtain ⟨A,c',he,hx⟩:=h;injection he with h1 h2 h3
 subst h1 h3;refine ⟨some a,c,by rw [List.length_take,Nat.min_eq_left hk],fun hne=>?_⟩;obtain ⟨b,off,e1,hlt,hcs⟩:=hx (fun e=>hne (by rw [e];simp));refine ⟨b,off,e1,hlt,fun i x hx j u hu=>hcs i x ?_ j u hu⟩;rw [List.getElem?_take] at hx
 split at hx
 ·exact hx
 ·cases hx
theorem jN {t:Tk} (h:bH t=false) (k:Nat):bH ⟨t.next,t.list.take k⟩=false:=by
 unfold bH at h ⊢;rw [Bool.or_eq_false_iff,Bool.or_eq_false_iff] at h ⊢;obtain ⟨⟨h1,h2⟩,h3⟩:=h;refine ⟨⟨h1,?_⟩,?_⟩
 ·simp at h2 ⊢;omega
 ·rw [List.any_eq_false] at h3 ⊢;exact fun x hx=>h3 x (List.mem_of_mem_take hx)
theorem fx {l:List UInt8} (h:di l=true):bH (cI l)=false:=by unfold di at h;simp at h;exact h.1
structure Taken where
 n:Int
 h:Hd
 e:Int
 B:Int→List UInt8
def df (B:Int→List UInt8) (e:Int):Taken:=⟨0,Hd.zero,e,B⟩
def eC (t:Tk) (pages:Int):Bool:=decide (pages≤t.next) || (decide (0<t.list.length) && decide (pages≤t.list.getD (t.list.length - 1) 0))
def bm (h:Hd) (B:Int→List UInt8):Taken:=
 if h.spare=0 then if 4096≤h.pages then df B 22 else ⟨h.pages,{ h with pages:=h.pages+1 },0,B⟩
 else if di (B h.trunk)=false then df B 30
 else
  let t:=cI (B h.trunk)
  if eC t h.pages then df B 30
  else if 0<t.list.length then ⟨t.list.getD (t.list.length - 1) 0,{ h with spare:=h.spare - 1 },0,bx B h.trunk (aD (eV ⟨t.next,t.list.take (t.list.length - 1)⟩))⟩
  else if ((t.next == 0) != (h.spare == 1)) then df B 30
  else ⟨h.trunk,{ h with trunk:=t.next,spare:=h.spare - 1 },0,B⟩
structure Hd.Ok (h:Hd):Prop where
 p1:1≤h.pages
 p2:h.pages≤4096
 t0:0≤h.trunk
 t1:h.trunk<4096
 s0:0≤h.spare
 s1:h.spare≤4096
theorem bY {w:World} {g:Nat} {o:Obj} (h:w.heap[g]?=some o) {a:Addr} (hn:a.block≠g) (u:Value):(w.setCell a u).heap[g]?=some o:=(Below.heap_setCell _ _ _ _ (fun e=>hn e.symm)).trans h
theorem cL {w w1:World} {gm rx:Nat} {B:Int→List UInt8} {h0:Hd} (hw:Below w.heap.size w w1) (hb:BookIs w1 gm B) (hr:w1.heap[rx]?=some (cQ h0)) (hrx:w.heap.size≤rx) (hg:gm<w.heap.size) (h:Hd):
  (hP w1 rx h).heap[rx]?=some (cQ h)∧BookIs (hP w1 rx h) gm B∧Ch (fun k=>k=gm) w (hP w1 rx h):=
 ⟨dL hr h,hb.ch (bR (Ch.refl (fun j=>j=rx) w1) rfl h) (by omega),(Ch.of_below hw).then (bR (Ch.refl (fun j=>j=rx) w1) rfl h) (fun i e=>.inr (by omega))⟩
theorem gO {w w1:World} {gm rx:Nat} {B:Int→List UInt8} {h0:Hd} (hw:Ch (fun k=>k=gm) w w1) (hb:BookIs w1 gm B) (hr:w1.heap[rx]?=some (cQ h0)) (hrx:w.heap.size≤rx) (hg:gm<w.heap.size) (h:Hd):
  (hP w1 rx h).heap[rx]?=some (cQ h)∧BookIs (hP w1 rx h) gm B∧Ch (fun k=>k=gm) w (hP w1 rx h):=
 ⟨dL hr h,hb.ch (bR (Ch.refl (fun j=>j=rx) w1) rfl h) (by omega),hw.then (bR (Ch.refl (fun j=>j=rx) w1) rfl h) (fun i e=>.inr (by omega))⟩
theorem ej (h:Hd) (gm:Nat) (B:Int→List UInt8) (w:World) (hb:BookIs w gm B) (hl:∀ n,(B n).length=232) (hk:h.Ok):
  Calls Tryz.prog 51 #[.agg #[.int .i64 h.mode,.int .i64 h.pages,.int .i64 h.trunk,.int .i64 h.spare,.int .i64 h.root,.int .u64 h.change],.iface 91 (.map (some gm))] w
   fun e w'=>e=.returned (.tuple #[.int .i64 (bm h B).n,(bm h B).h.val,.int .i64 (bm h B).e])∧BookIs w' gm (bm h B).B∧Ch (fun k=>k=gm) w w':=by
 have HH:=hid hb;have hgm:=hb.lt;clear hb;obtain ⟨hm,hp,ht,hs,hr,hc⟩:=h;obtain ⟨k1,k2,k3,k4,k5,k6⟩:=hk;simp only at k1 k2 k3 k4 k5 k6;go_enter Tryz.func51,Tryz.ntmps51;go_upto_region 1 with fail
 have HX1:=hid (ai (ag (w0:=w) (g:=w.heap.size) (o:=cQ ⟨hm,hp,ht,hs,hr,hc⟩) rfl) (cQ Hd.zero));have HR1:=hid (ag (w0:=w.alloc (cQ ⟨hm,hp,ht,hs,hr,hc⟩)) (g:=w.heap.size+1) (o:=cQ Hd.zero) (by simp));have HW1:=hid (((Below.refl _ w).alloc (Nat.le_refl _) (cQ ⟨hm,hp,ht,hs,hr,hc⟩)).alloc (by simp) (cQ Hd.zero));have HH1:=hid (HH.out.ch (Ch.of_below (S:=fun _=>False) HW1.out) id);generalize hw1:(w.alloc (.cells #[.int .i64 hm,.int .i64 hp,.int .i64 ht,.int .i64 hs,.int .i64 hr,.int .u64 hc] 51)).alloc (.cells #[.int .i64 0,.int .i64 0,.int .i64 0,.int .i64 0,.int .i64 0,.int .u64 0] 51)=w1 at *;have hw2:(w.alloc (cQ ⟨hm,hp,ht,hs,hr,hc⟩)).alloc (cQ Hd.zero)=w1:=hw1;rw [hw2] at HX1 HR1 HW1 HH1;clear hw1 hw2;obtain ⟨a0,a1,a2,a3,a4,a5,a6⟩:=au HX1.out;obtain ⟨b0,b1,b2,b3,b4,b5⟩:=aN HX1.out;obtain ⟨c0,c1,c2,c3,c4,c5,c6⟩:=au HR1.out;obtain ⟨d0,d1,d2,d3,d4,d5⟩:=aN HR1.out;simp only [Hd.zero] at a0 a1 a2 a3 a4 a5 c0 c1 c2 c3 c4 c5;by_cases h0:hs=0
 ·subst h0;by_cases hp4:4096≤hp
  ·have HT:=hid (show bm ⟨hm,hp,ht,0,hr,hc⟩ B=df B 22 by simp [bm,hp4]);go_wp2_with fail;have HF:=hid (cL HW1.out HH1.out HR1.out (Nat.le_succ _) (by omega) ⟨0,0,0,0,0,0⟩);obtain ⟨q0,q1,q2,q3,q4,q5,q6⟩:=au HF.out.1;generalize hwf:hP (w1) (w.heap.size+1) ⟨0,0,0,0,0,0⟩=wf at *;have hwf2:((((((w1).setCell ⟨w.heap.size+1,0,none⟩ (.int .i64 (0))).setCell ⟨w.heap.size+1,1,none⟩ (.int .i64 (0))).setCell ⟨w.heap.size+1,2,none⟩ (.int .i64 (0))).setCell ⟨w.heap.size+1,3,none⟩ (.int .i64 (0))).setCell ⟨w.heap.size+1,4,none⟩ (.int .i64 (0))).setCell ⟨w.heap.size+1,5,none⟩ (.int .u64 (0))=wf:=hwf;rw [hwf2];exact bodyPost_ret (v:=.tuple #[.int .i64 (0),.agg #[.int .i64 (0),.int .i64 (0),.int .i64 (0),.int .i64 (0),.int .i64 (0),.int .u64 (0)],.int .i64 (22)]) (by simp [results,Tryz.results51,go_sem,q0,q1,q2,q3,q4,q5]) rfl ⟨by rw [HT.out];rfl,by rw [HT.out];exact HF.out.2.1.block rfl,⟨HF.out.2.2.os,HF.out.2.2.tape,HF.out.2.2.output,HF.out.2.2.size,HF.out.2.2.block⟩⟩
  ·have HT:=hid (show bm ⟨hm,hp,ht,0,hr,hc⟩ B=⟨hp,⟨hm,hp+1,ht,0,hr,hc⟩,0,B⟩ by simp [bm,hp4]);have hp5:hp<4096:=by omega
   go_wp2_with fail;go_region
   all_goals
    go_wp2_with fail;have HF:=hid (cL (HW1.out.setCell (p:=⟨w.heap.size,1,none⟩) (Nat.le_refl _) (.int .i64 (hp+1))) (HH1.out.ch ((Ch.refl (fun j=>j=w.heap.size) w1).setCell (p:=⟨w.heap.size,1,none⟩) rfl (.int .i64 (hp+1))) (by omega)) (bY HR1.out (a:=⟨w.heap.size,1,none⟩) (by simp) (.int .i64 (hp+1))) (Nat.le_succ _) (by omega) ⟨hm,hp+1,ht,0,hr,hc⟩);obtain ⟨q0,q1,q2,q3,q4,q5,q6⟩:=au HF.out.1;generalize hwf:hP (w1.setCell ⟨w.heap.size,1,none⟩ (.int .i64 (hp+1))) (w.heap.size+1) ⟨hm,hp+1,ht,0,hr,hc⟩=wf at *;have hwf2:((((((w1.setCell ⟨w.heap.size,1,none⟩ (.int .i64 (hp+1))).setCell ⟨w.heap.size+1,0,none⟩ (.int .i64 (hm))).setCell ⟨w.heap.size+1,1,none⟩ (.int .i64 (hp+1))).setCell ⟨w.heap.size+1,2,none⟩ (.int .i64 (ht))).setCell ⟨w.heap.size+1,3,none⟩ (.int .i64 (0))).setCell ⟨w.heap.size+1,4,none⟩ (.int .i64 (hr))).setCell ⟨w.heap.size+1,5,none⟩ (.int .u64 (hc))=wf:=hwf;rw [hwf2];exact bodyPost_ret (v:=.tuple #[.int .i64 (hp),.agg #[.int .i64 (hm),.int .i64 (hp+1),.int .i64 (ht),.int .i64 (0),.int .i64 (hr),.int .u64 (hc)],.int .i64 (0)]) (by simp [results,Tryz.results51,go_sem,q0,q1,q2,q3,q4,q5]) rfl ⟨by rw [HT.out];rfl,by rw [HT.out];exact HF.out.2.1.block rfl,⟨HF.out.2.2.os,HF.out.2.2.tape,HF.out.2.2.output,HF.out.2.2.size,HF.out.2.2.block⟩⟩
 ·have h01:(hs == 0)=false:=by simpa using h0
  have hs2:¬ hs=0:=h0;go_wp2_with fail;refine (kV ht gm B w1 HH1.out (jy k3 k4) (hl ht)).mono ?_;obtain ⟨⟨tn,tl⟩,hT⟩:∃ T,dU (B ht)=T:=⟨_,rfl⟩;obtain ⟨te,hte⟩:∃ te,iK (B ht)=te:=⟨_,rfl⟩;rw [hT,hte];have HTT:=hid hT;have HTE:=hid hte;clear hT hte;rintro e w2 ⟨v,rfl,⟨lv,rfl,ho⟩,hb⟩;simp only at ho;have hgb:w1.heap.size≤w2.heap.size:=hb.size;obtain ⟨A,c,rfl⟩:=Sl.len' (ho.sl aA);have HX3:=hid (ai (ae HX1.out hb) (.cells #[.int .i64 tn,.slice A tl.length c] 167));have HR3:=hid (ai (ae HR1.out hb) (.cells #[.int .i64 tn,.slice A tl.length c] 167));have HW2:=HW1.out.trans (hb.mono HW1.out.size);have HW3:=hid (HW2.alloc HW2.size (.cells #[.int .i64 tn,.slice A tl.length c] 167));have HH3:=hid ((HH1.out.ch (Ch.of_below (S:=fun _=>False) hb) id).ch (Ch.alloc (Ch.refl (fun _=>False) w2) (.cells #[.int .i64 tn,.slice A tl.length c] 167)) id);have HO3:=hid (ho.alloc (.cells #[.int .i64 tn,.slice A tl.length c] 167));have HG3:=hid (ag (w0:=w2) (g:=w2.heap.size) (o:=.cells #[.int .i64 tn,.slice A tl.length c] 167) rfl);have hg2:w.heap.size+1<w2.heap.size:=by have:=aj HR1.out;omega
  clear hb ho HW2 a0 a1 a2 a3 a4 a5 b0 b1 b2 b3 b4 b5 c0 c1 c2 c3 c4 c5 d0 d1 d2 d3 d4 d5;go_upto_region 7 with fail
  generalize w2.alloc (.cells #[.int .i64 tn,.slice A tl.length c] 167)=w3 at *;generalize w2.heap.size=g2 at *;obtain ⟨a0,a1,a2,a3,a4,a5,a7⟩:=au HX3.out;obtain ⟨b0,b1,b2,b3,b4,b5⟩:=aN HX3.out;obtain ⟨c0,c1,c2,c3,c4,c5,c7⟩:=au HR3.out;obtain ⟨d0,d1,d2,d3,d4,d5⟩:=aN HR3.out;obtain ⟨t0,t1,t2,t3,t4⟩:=dF HG3.out;simp only [Hd.zero] at a0 a1 a2 a3 a4 a5 c0 c1 c2 c3 c4 c5;cases hd:di (B ht)
  ·have HT:=hid (show bm ⟨hm,hp,ht,hs,hr,hc⟩ B=df B 30 by simp [bm,h0,hd]);obtain rfl:te=30:=by rw [← HTE.out];simp [iK,hd]
   clear HTE;go_wp2_with fail;have HF:=hid (cL HW3.out HH3.out HR3.out (Nat.le_succ _) (by omega) ⟨0,0,0,0,0,0⟩);obtain ⟨q0,q1,q2,q3,q4,q5,q6⟩:=au HF.out.1;generalize hwf:hP (w3) (w.heap.size+1) ⟨0,0,0,0,0,0⟩=wf at *;have hwf2:((((((w3).setCell ⟨w.heap.size+1,0,none⟩ (.int .i64 (0))).setCell ⟨w.heap.size+1,1,none⟩ (.int .i64 (0))).setCell ⟨w.heap.size+1,2,none⟩ (.int .i64 (0))).setCell ⟨w.heap.size+1,3,none⟩ (.int .i64 (0))).setCell ⟨w.heap.size+1,4,none⟩ (.int .i64 (0))).setCell ⟨w.heap.size+1,5,none⟩ (.int .u64 (0))=wf:=hwf;rw [hwf2];exact bodyPost_ret (v:=.tuple #[.int .i64 (0),.agg #[.int .i64 (0),.int .i64 (0),.int .i64 (0),.int .i64 (0),.int .i64 (0),.int .u64 (0)],.int .i64 (30)]) (by simp [results,Tryz.results51,go_sem,q0,q1,q2,q3,q4,q5]) rfl ⟨by rw [HT.out];rfl,by rw [HT.out];exact HF.out.2.1.block rfl,⟨HF.out.2.2.os,HF.out.2.2.tape,HF.out.2.2.output,HF.out.2.2.size,HF.out.2.2.block⟩⟩
  ·obtain rfl:te=0:=by rw [← HTE.out];simp [iK,hd]
   have HDP:=hid (show cI (B ht)=⟨tn,tl⟩ by rw [← HTT.out];simp [dU,hd]);clear HTE HTT;have HTR:=hid (show bm ⟨hm,hp,ht,hs,hr,hc⟩ B=if eC ⟨tn,tl⟩ hp then df B 30 else if 0<tl.length then ⟨tl.getD (tl.length - 1) 0,⟨hm,hp,ht,hs - 1,hr,hc⟩,0,bx B ht (aD (eV ⟨tn,tl.take (tl.length - 1)⟩))⟩ else if ((tn == 0) != (hs == 1)) then df B 30 else ⟨ht,⟨hm,hp,tn,hs - 1,hr,hc⟩,0,B⟩ by simp only [bm,h0,hd,HDP.out];rfl);have HBD:=hid (show bH ⟨tn,tl⟩=false by have:=fx hd;rw [HDP.out] at this;exact this);by_cases h1:hp≤tn
   ·have HT:=hid (show bm ⟨hm,hp,ht,hs,hr,hc⟩ B=df B 30 by rw [HTR.out,if_pos (by simp [eC,h1])]);have h1b:decide (hp≤tn)=true:=decide_eq_true h1;go_upto_region 11 with fail
    go_region
    all_goals
     go_wp2_with fail;have HF:=hid (cL HW3.out HH3.out HR3.out (Nat.le_succ _) (by omega) ⟨0,0,0,0,0,0⟩);obtain ⟨q0,q1,q2,q3,q4,q5,q6⟩:=au HF.out.1;generalize hwf:hP (w3) (w.heap.size+1) ⟨0,0,0,0,0,0⟩=wf at *;have hwf2:((((((w3).setCell ⟨w.heap.size+1,0,none⟩ (.int .i64 (0))).setCell ⟨w.heap.size+1,1,none⟩ (.int .i64 (0))).setCell ⟨w.heap.size+1,2,none⟩ (.int .i64 (0))).setCell ⟨w.heap.size+1,3,none⟩ (.int .i64 (0))).setCell ⟨w.heap.size+1,4,none⟩ (.int .i64 (0))).setCell ⟨w.heap.size+1,5,none⟩ (.int .u64 (0))=wf:=hwf;rw [hwf2];exact bodyPost_ret (v:=.tuple #[.int .i64 (0),.agg #[.int .i64 (0),.int .i64 (0),.int .i64 (0),.int .i64 (0),.int .i64 (0),.int .u64 (0)],.int .i64 (30)]) (by simp [results,Tryz.results51,go_sem,q0,q1,q2,q3,q4,q5]) rfl ⟨by rw [HT.out];rfl,by rw [HT.out];exact HF.out.2.1.block rfl,⟨HF.out.2.2.os,HF.out.2.2.tape,HF.out.2.2.output,HF.out.2.2.size,HF.out.2.2.block⟩⟩
   ·have h1b:decide (hp≤tn)=false:=decide_eq_false h1;have h1c:tn<hp:=by omega
    rcases Nat.eq_zero_or_pos tl.length with hz | hz
    ·have htl:tl=[]:=List.length_eq_zero_iff.1 hz;subst htl;rw [if_neg (by simp [eC,h1]),if_neg (by simp)] at HTR;go_upto_region 11 with fail
     go_region
     all_goals
      have hs1:(1:Int)≤hs:=by omega
      have HW4:=hid (HW3.out.setCell (p:=⟨w.heap.size,2,none⟩) (Nat.le_refl _) (.int .i64 tn));have HH4:=hid (HH3.out.ch ((Ch.refl (fun j=>j=w.heap.size) w3).setCell (p:=⟨w.heap.size,2,none⟩) rfl (.int .i64 tn)) (by omega));have HR4:=hid (bY HR3.out (a:=⟨w.heap.size,2,none⟩) (by simp) (.int .i64 tn));have HW5:=hid (HW4.out.setCell (p:=⟨w.heap.size,3,none⟩) (Nat.le_refl _) (.int .i64 (hs - 1)));have HH5:=hid (HH4.out.ch ((Ch.refl (fun j=>j=w.heap.size) _).setCell (p:=⟨w.heap.size,3,none⟩) rfl (.int .i64 (hs - 1))) (by omega));have HR5:=hid (bY HR4.out (a:=⟨w.heap.size,3,none⟩) (by simp) (.int .i64 (hs - 1)));rcases Bool.eq_false_or_eq_true (tn == 0) with g1 | g1 <;> rcases Bool.eq_false_or_eq_true (hs == 1) with g3 | g3
      ·have HT:=hid (show bm ⟨hm,hp,ht,hs,hr,hc⟩ B=⟨ht,⟨hm,hp,tn,hs - 1,hr,hc⟩,0,B⟩ by rw [HTR.out,g1,g3];simp);go_wp2_with fail;go_region
       all_goals
        go_wp2_with fail;have HF:=hid (cL HW5.out HH5.out HR5.out (Nat.le_succ _) (by omega) ⟨hm,hp,tn,hs - 1,hr,hc⟩);obtain ⟨q0,q1,q2,q3,q4,q5,q6⟩:=au HF.out.1;generalize hwf:hP ((w3.setCell ⟨w.heap.size,2,none⟩ (.int .i64 tn)).setCell ⟨w.heap.size,3,none⟩ (.int .i64 (hs - 1))) (w.heap.size+1) ⟨hm,hp,tn,hs - 1,hr,hc⟩=wf at *;have hwf2:(((((((w3.setCell ⟨w.heap.size,2,none⟩ (.int .i64 tn)).setCell ⟨w.heap.size,3,none⟩ (.int .i64 (hs - 1))).setCell ⟨w.heap.size+1,0,none⟩ (.int .i64 (hm))).setCell ⟨w.heap.size+1,1,none⟩ (.int .i64 (hp))).setCell ⟨w.heap.size+1,2,none⟩ (.int .i64 (tn))).setCell ⟨w.heap.size+1,3,none⟩ (.int .i64 (hs - 1))).setCell ⟨w.heap.size+1,4,none⟩ (.int .i64 (hr))).setCell ⟨w.heap.size+1,5,none⟩ (.int .u64 (hc))=wf:=hwf;rw [hwf2];exact bodyPost_ret (v:=.tuple #[.int .i64 (ht),.agg #[.int .i64 (hm),.int .i64 (hp),.int .i64 (tn),.int .i64 (hs - 1),.int .i64 (hr),.int .u64 (hc)],.int .i64 (0)]) (by simp [results,Tryz.results51,go_sem,q0,q1,q2,q3,q4,q5]) rfl ⟨by rw [HT.out];rfl,by rw [HT.out];exact HF.out.2.1.block rfl,⟨HF.out.2.2.os,HF.out.2.2.tape,HF.out.2.2.output,HF.out.2.2.size,HF.out.2.2.block⟩⟩
      ·have HT:=hid (show bm ⟨hm,hp,ht,hs,hr,hc⟩ B=df B 30 by rw [HTR.out,g1,g3];simp);go_wp2_with fail;have HF:=hid (cL HW4.out HH4.out HR4.out (Nat.le_succ _) (by omega) ⟨0,0,0,0,0,0⟩);obtain ⟨q0,q1,q2,q3,q4,q5,q6⟩:=au HF.out.1;generalize hwf:hP (w3.setCell ⟨w.heap.size,2,none⟩ (.int .i64 tn)) (w.heap.size+1) ⟨0,0,0,0,0,0⟩=wf at *;have hwf2:((((((w3.setCell ⟨w.heap.size,2,none⟩ (.int .i64 tn)).setCell ⟨w.heap.size+1,0,none⟩ (.int .i64 (0))).setCell ⟨w.heap.size+1,1,none⟩ (.int .i64 (0))).setCell ⟨w.heap.size+1,2,none⟩ (.int .i64 (0))).setCell ⟨w.heap.size+1,3,none⟩ (.int .i64 (0))).setCell ⟨w.heap.size+1,4,none⟩ (.int .i64 (0))).setCell ⟨w.heap.size+1,5,none⟩ (.int .u64 (0))=wf:=hwf;rw [hwf2];exact bodyPost_ret (v:=.tuple #[.int .i64 (0),.agg #[.int .i64 (0),.int .i64 (0),.int .i64 (0),.int .i64 (0),.int .i64 (0),.int .u64 (0)],.int .i64 (30)]) (by simp [results,Tryz.results51,go_sem,q0,q1,q2,q3,q4,q5]) rfl ⟨by rw [HT.out];rfl,by rw [HT.out];exact HF.out.2.1.block rfl,⟨HF.out.2.2.os,HF.out.2.2.tape,HF.out.2.2.output,HF.out.2.2.size,HF.out.2.2.block⟩⟩
      ·have HT:=hid (show bm ⟨hm,hp,ht,hs,hr,hc⟩ B=df B 30 by rw [HTR.out,g1,g3];simp);go_wp2_with fail;have HF:=hid (cL HW4.out HH4.out HR4.out (Nat.le_succ _) (by omega) ⟨0,0,0,0,0,0⟩);obtain ⟨q0,q1,q2,q3,q4,q5,q6⟩:=au HF.out.1;generalize hwf:hP (w3.setCell ⟨w.heap.size,2,none⟩ (.int .i64 tn)) (w.heap.size+1) ⟨0,0,0,0,0,0⟩=wf at *;have hwf2:((((((w3.setCell ⟨w.heap.size,2,none⟩ (.int .i64 tn)).setCell ⟨w.heap.size+1,0,none⟩ (.int .i64 (0))).setCell ⟨w.heap.size+1,1,none⟩ (.int .i64 (0))).setCell ⟨w.heap.size+1,2,none⟩ (.int .i64 (0))).setCell ⟨w.heap.size+1,3,none⟩ (.int .i64 (0))).setCell ⟨w.heap.size+1,4,none⟩ (.int .i64 (0))).setCell ⟨w.heap.size+1,5,none⟩ (.int .u64 (0))=wf:=hwf;rw [hwf2];exact bodyPost_ret (v:=.tuple #[.int .i64 (0),.agg #[.int .i64 (0),.int .i64 (0),.int .i64 (0),.int .i64 (0),.int .i64 (0),.int .u64 (0)],.int .i64 (30)]) (by simp [results,Tryz.results51,go_sem,q0,q1,q2,q3,q4,q5]) rfl ⟨by rw [HT.out];rfl,by rw [HT.out];exact HF.out.2.1.block rfl,⟨HF.out.2.2.os,HF.out.2.2.tape,HF.out.2.2.output,HF.out.2.2.size,HF.out.2.2.block⟩⟩
      ·have HT:=hid (show bm ⟨hm,hp,ht,hs,hr,hc⟩ B=⟨ht,⟨hm,hp,tn,hs - 1,hr,hc⟩,0,B⟩ by rw [HTR.out,g1,g3];simp);go_wp2_with fail;go_region
       all_goals
        go_wp2_with fail;have HF:=hid (cL HW5.out HH5.out HR5.out (Nat.le_succ _) (by omega) ⟨hm,hp,tn,hs - 1,hr,hc⟩);obtain ⟨q0,q1,q2,q3,q4,q5,q6⟩:=au HF.out.1;generalize hwf:hP ((w3.setCell ⟨w.heap.size,2,none⟩ (.int .i64 tn)).setCell ⟨w.heap.size,3,none⟩ (.int .i64 (hs - 1))) (w.heap.size+1) ⟨hm,hp,tn,hs - 1,hr,hc⟩=wf at *;have hwf2:(((((((w3.setCell ⟨w.heap.size,2,none⟩ (.int .i64 tn)).setCell ⟨w.heap.size,3,none⟩ (.int .i64 (hs - 1))).setCell ⟨w.heap.size+1,0,none⟩ (.int .i64 (hm))).setCell ⟨w.heap.size+1,1,none⟩ (.int .i64 (hp))).setCell ⟨w.heap.size+1,2,none⟩ (.int .i64 (tn))).setCell ⟨w.heap.size+1,3,none⟩ (.int .i64 (hs - 1))).setCell ⟨w.heap.size+1,4,none⟩ (.int .i64 (hr))).setCell ⟨w.heap.size+1,5,none⟩ (.int .u64 (hc))=wf:=hwf;rw [hwf2];exact bodyPost_ret (v:=.tuple #[.int .i64 (ht),.agg #[.int .i64 (hm),.int .i64 (hp),.int .i64 (tn),.int .i64 (hs - 1),.int .i64 (hr),.int .u64 (hc)],.int .i64 (0)]) (by simp [results,Tryz.results51,go_sem,q0,q1,q2,q3,q4,q5]) rfl ⟨by rw [HT.out];rfl,by rw [HT.out];exact HF.out.2.1.block rfl,⟨HF.out.2.2.os,HF.out.2.2.tape,HF.out.2.2.output,HF.out.2.2.size,HF.out.2.2.block⟩⟩
    ·obtain ⟨m,hm1⟩:∃ m,tl.length=m+1:=⟨tl.length - 1,by omega⟩;have hml:m<tl.length:=by omega
     have hl1:(tl.length:Int) - 1=(m:Int):=by omega
     have hl2:(0:Int)≤(m:Int):=by omega
     have hl2b:decide ((0:Int)≤(m:Int))=true:=decide_eq_true hl2;have hl3:(m:Int)<(tl.length:Int):=by omega
     have hcap:tl.length≤c:=HO3.out.cap;have hl5:(tl.length:Int)≤50:=by have:=(jm HBD.out).2.2.1;simp only at this;omega
     have hl6:(m:Int)≤50:=by omega
     have hl4:(m:Int)≤(c:Int):=by omega
     have HM:=hid (show tl.length - 1=m by omega);obtain ⟨b,off,c',he,hbl,hcs⟩:=(HO3.out.sl aA).at1 hml;injection he with he1 he2 he3
     subst he1 he3;have e0:w3.cell? ⟨b,off+m,none⟩=some (.int .i64 tl[m]):=by simpa using hcs 0 _ rfl
     have HTK:=hid ((HO3.out.sl aA).take m (by omega));have HLE:=hid (show (tl.take m).length≤1000000 by
      have:=(jm HBD.out).2.2.1;simp only at this;rw [List.length_take];omega)
     have HGD:=hid (show tl.getD m 0=tl[m] by simp [hml]);have HB6:=hid (jN HBD.out m);have HPZ:=hid (show decide (0<tl.length)=true from decide_eq_true hz);rw [HM.out,HGD.out] at HTR;rw [if_pos hz] at HTR;clear hcs hm1 hz;generalize tl[m]=x at *;by_cases h2:hp≤x
     ·have HT:=hid (show bm ⟨hm,hp,ht,hs,hr,hc⟩ B=df B 30 by
       rw [HTR.out,if_pos];unfold eC;simp only [h1b,HPZ.out,HM.out,HGD.out,decide_eq_true h2];rfl)
      have h2b:decide (hp≤x)=true:=decide_eq_true h2;go_upto_region 11 with fail
      go_region
      all_goals
       go_wp2_with fail;have HF:=hid (cL HW3.out HH3.out HR3.out (Nat.le_succ _) (by omega) ⟨0,0,0,0,0,0⟩);obtain ⟨q0,q1,q2,q3,q4,q5,q6⟩:=au HF.out.1;generalize hwf:hP (w3) (w.heap.size+1) ⟨0,0,0,0,0,0⟩=wf at *;have hwf2:((((((w3).setCell ⟨w.heap.size+1,0,none⟩ (.int .i64 (0))).setCell ⟨w.heap.size+1,1,none⟩ (.int .i64 (0))).setCell ⟨w.heap.size+1,2,none⟩ (.int .i64 (0))).setCell ⟨w.heap.size+1,3,none⟩ (.int .i64 (0))).setCell ⟨w.heap.size+1,4,none⟩ (.int .i64 (0))).setCell ⟨w.heap.size+1,5,none⟩ (.int .u64 (0))=wf:=hwf;rw [hwf2];exact bodyPost_ret (v:=.tuple #[.int .i64 (0),.agg #[.int .i64 (0),.int .i64 (0),.int .i64 (0),.int .i64 (0),.int .i64 (0),.int .u64 (0)],.int .i64 (30)]) (by simp [results,Tryz.results51,go_sem,q0,q1,q2,q3,q4,q5]) rfl ⟨by rw [HT.out];rfl,by rw [HT.out];exact HF.out.2.1.block rfl,⟨HF.out.2.2.os,HF.out.2.2.tape,HF.out.2.2.output,HF.out.2.2.size,HF.out.2.2.block⟩⟩
     ·have HT:=hid (show bm ⟨hm,hp,ht,hs,hr,hc⟩ B=⟨x,⟨hm,hp,ht,hs - 1,hr,hc⟩,0,bx B ht (aD (eV ⟨tn,tl.take m⟩))⟩ by
       rw [HTR.out,if_neg];unfold eC;simp only [h1b,HPZ.out,HM.out,HGD.out,decide_eq_false h2];simp)
      have h2b:decide (hp≤x)=false:=decide_eq_false h2;have hs1:(1:Int)≤hs:=by omega
      go_upto_region 11 with fail
      go_region
      all_goals
       go_upto_region 15 with fail
       have HBW:=hid (show Below w3.heap.size w3 w3.drew.drew from ((Below.refl _ w3).drew).drew);have HLB:=hid (show jv ⟨tn,tl.take m⟩ B ht=bx B ht (aD (eV ⟨tn,tl.take m⟩))∧ju ⟨tn,tl.take m⟩=0 by unfold jv ju;rw [HB6.out];exact ⟨rfl,rfl⟩);go_cut [8] from 70 to 80 (fun sv wc=>sv=.int .i64 0∧BookIs wc gm (bx B ht (aD (eV ⟨tn,tl.take m⟩)))∧wc.heap[w.heap.size]?=some (cQ ⟨hm,hp,ht,hs,hr,hc⟩)∧wc.heap[w.heap.size+1]?=some (cQ Hd.zero)∧Ch (fun k=>k=gm) w wc)
       case first=>
        go_region_with (go_at_call 103;refine (jD ht ⟨tn,tl.take m⟩ _ gm B w3.drew.drew (HH3.out.block rfl) k3 k4 (HTK.out.keep HBW.out) HLE.out).mono ?_;rintro e w5 ⟨rfl,hbk,hch⟩)
        all_goals
         have HM5:=hid (show BookIs w5 gm (bx B ht (aD (eV ⟨tn,tl.take m⟩)))∧w5.heap[w.heap.size]?=some (cQ ⟨hm,hp,ht,hs,hr,hc⟩)∧w5.heap[w.heap.size+1]?=some (cQ Hd.zero)∧Ch (fun k=>k=gm) w w5 from
          ⟨by rw [← HLB.out.1];exact hbk,hch.keep (show w3.drew.drew.heap[w.heap.size]?=_ from HX3.out) (by omega),hch.keep (show w3.drew.drew.heap[w.heap.size+1]?=_ from HR3.out) (by omega),((Ch.of_below (S:=fun k=>k=gm) HW3.out).drew.drew).trans hch⟩)
         rw [HLB.out.2];clear hbk hch;go_wp2_with fail;go_meet
         case rel=>exact ⟨rfl,HM5.out⟩
       case rest=>
        obtain ⟨rfl,hbk,hx6,hr6,hc6⟩:=hcut;have HBK:=hid hbk;have HR6:=hid hr6;have HC6:=hid hc6;have HX6:=hid hx6;clear hbk hr6 hc6 hx6 a0 a1 a2 a3 a4 a5 b0 b1 b2 b3 b4 b5 c0 c1 c2 c3 c4 c5 d0 d1 d2 d3 d4 d5 t0 t1 t2 t3 t4 e0;obtain ⟨a0,a1,a2,a3,a4,a5,a7⟩:=au HX6.out;obtain ⟨b0,b1,b2,b3,b4,b5⟩:=aN HX6.out;obtain ⟨c0,c1,c2,c3,c4,c5,c7⟩:=au HR6.out;obtain ⟨d0,d1,d2,d3,d4,d5⟩:=aN HR6.out;simp only [Hd.zero] at a0 a1 a2 a3 a4 a5 c0 c1 c2 c3 c4 c5;go_wp2_with fail;go_region
        all_goals
         go_wp2_with fail;have HF:=hid (gO (HC6.out.then ((Ch.refl (fun j=>j=w.heap.size) wc).setCell (p:=⟨w.heap.size,3,none⟩) rfl (.int .i64 (hs - 1))) (fun i e=>.inr (by omega))) (HBK.out.ch ((Ch.refl (fun j=>j=w.heap.size) wc).setCell (p:=⟨w.heap.size,3,none⟩) rfl (.int .i64 (hs - 1))) (by omega)) (bY HR6.out (a:=⟨w.heap.size,3,none⟩) (by simp) (.int .i64 (hs - 1))) (Nat.le_succ _) (by omega) ⟨hm,hp,ht,hs - 1,hr,hc⟩);obtain ⟨q0,q1,q2,q3,q4,q5,q6⟩:=au HF.out.1;generalize hwf:hP (wc.setCell ⟨w.heap.size,3,none⟩ (.int .i64 (hs - 1))) (w.heap.size+1) ⟨hm,hp,ht,hs - 1,hr,hc⟩=wf at *;have hwf2:((((((wc.setCell ⟨w.heap.size,3,none⟩ (.int .i64 (hs - 1))).setCell ⟨w.heap.size+1,0,none⟩ (.int .i64 (hm))).setCell ⟨w.heap.size+1,1,none⟩ (.int .i64 (hp))).setCell ⟨w.heap.size+1,2,none⟩ (.int .i64 (ht))).setCell ⟨w.heap.size+1,3,none⟩ (.int .i64 (hs - 1))).setCell ⟨w.heap.size+1,4,none⟩ (.int .i64 (hr))).setCell ⟨w.heap.size+1,5,none⟩ (.int .u64 (hc))=wf:=hwf;rw [hwf2];exact bodyPost_ret (v:=.tuple #[.int .i64 (x),.agg #[.int .i64 (hm),.int .i64 (hp),.int .i64 (ht),.int .i64 (hs - 1),.int .i64 (hr),.int .u64 (hc)],.int .i64 (0)]) (by simp [results,Tryz.results51,go_sem,q0,q1,q2,q3,q4,q5]) rfl ⟨by rw [HT.out];rfl,by rw [HT.out];exact HF.out.2.1.block rfl,⟨HF.out.2.2.os,HF.out.2.2.tape,HF.out.2.2.output,HF.out.2.2.size,HF.out.2.2.block⟩⟩
structure Sf where
 lim:Int
 h:Hd
 B:Int→List UInt8
 left:Int
def lT (s:Sf) (gm:Nat):Obj:=.cells #[.int .i64 s.lim,.int .i64 s.h.mode,.int .i64 s.h.pages,.int .i64 s.h.trunk,.int .i64 s.h.spare,.int .i64 s.h.root,.int .u64 s.h.change,.map (some gm),.int .i64 s.left] 93 (0,0)
structure Sf.Ok (s:Sf):Prop where
 h:s.h.Ok
 l:∀ n,(s.B n).length=232
 l0:-1≤s.left
 l1:s.left≤1000000000
structure ShIs (w:World) (gs gm:Nat) (s:Sf):Prop where
 blk:w.heap[gs]?=some (lT s gm)
 book:BookIs w gm s.B
 ne:gm≠gs
 ok:s.Ok
theorem gq {w:World} {g gm:Nat} {s:Sf} (hh:w.heap[g]?=some (lT s gm)):w.cell? ⟨g,0,none⟩=some (.int .i64 s.lim)∧w.cell? ⟨g,1,none⟩=some (.int .i64 s.h.mode)∧w.cell? ⟨g,2,none⟩=some (.int .i64 s.h.pages)∧w.cell? ⟨g,3,none⟩=some (.int .i64 s.h.trunk)∧
  w.cell? ⟨g,4,none⟩=some (.int .i64 s.h.spare)∧w.cell? ⟨g,5,none⟩=some (.int .i64 s.h.root)∧w.cell? ⟨g,6,none⟩=some (.int .u64 s.h.change)∧w.cell? ⟨g,7,none⟩=some (.map (some gm))∧w.cell? ⟨g,8,none⟩=some (.int .i64 s.left)∧g<w.heap.size∧∀ i,w.frozen? ⟨g,i,none⟩=false:=
 ⟨ac hh 0,ac hh 1,ac hh 2,ac hh 3,ac hh 4,ac hh 5,ac hh 6,ac hh 7,ac hh 8,aj hh,ab hh⟩
theorem ShIs.ch {S:Nat→Prop} {w w':World} {gs gm:Nat} {s:Sf} (h:ShIs w gs gm s) (hc:Ch S w w') (h1:¬ S gs) (h2:¬ S gm):ShIs w' gs gm s:=⟨hc.keep h.blk h1,h.book.ch hc h2,h.ne,h.ok⟩
def bl (s:Sf):Sf:=if 0<s.left then { s with left:=s.left - 1 } else s
def bc (s:Sf) (n:Int):Int:=if s.left=0 then 11 else if n<1∨s.h.pages≤n then 21 else 0
theorem gZ {s:Sf} (h:s.Ok):(bl s).Ok:=by
 unfold bl
 split
 ·exact ⟨h.h,h.l,by have:=h.l0;simp only;omega,by have:=h.l1;simp only;omega⟩
 ·exact h
theorem kD {w:World} {gs gm:Nat} {s:Sf} (h:w.heap[gs]?=some (lT s gm)) (v:Int):(w.setCell ⟨gs,8,none⟩ (.int .i64 v)).heap[gs]?=some (lT { s with left:=v } gm):=ah h 8 _
theorem c9 (n:Int) (gs gm:Nat) (s:Sf) (w:World) (h:ShIs w gs gm s):
  Calls Tryz.prog 50 #[.pointer (some ⟨gs,0,none⟩),.int .i64 n] w fun e w'=>e=.returned (.int .i64 (bc s n))∧ShIs w' gs gm (bl s)∧Ch (fun k=>k=gs) w w':=by
 have H:=hid h;obtain ⟨a0,a1,a2,a3,a4,a5,a6,a7,a8,a9,a10⟩:=gq h.blk;have b8:=a10 8;have o1:=h.ok.l0;have o2:=h.ok.l1;have HOK:=hid (gZ h.ok);clear h a10;go_enter Tryz.func50,Tryz.ntmps50;by_cases h0:s.left=0
 ·have HE:=hid (show bc s n=11∧bl s=s by simp [bc,bl,h0]);rw [h0] at a8;go_wp2_with fail;go_ret;exact ⟨by rw [HE.out.1];rfl,by rw [HE.out.2];exact H.out,Ch.refl _ _⟩
 ·have h01:(s.left == 0)=false:=by simpa using h0
  by_cases hp:0<s.left
  ·have HS:=hid (show bl s={ s with left:=s.left - 1 } by simp [bl,hp]);have HB:=hid (show ShIs (w.setCell ⟨gs,8,none⟩ (.int .i64 (s.left - 1))) gs gm (bl s) from ⟨by rw [HS.out];exact kD H.out.blk _,by rw [HS.out];exact H.out.book.ch ((Ch.refl (fun j=>j=gs) w).setCell (p:=⟨gs,8,none⟩) rfl _) H.out.ne,H.out.ne,HOK.out⟩);have HC:=hid ((Ch.refl (fun j=>j=gs) w).setCell (p:=⟨gs,8,none⟩) rfl (.int .i64 (s.left - 1)));by_cases hn:n<1
   ·have HE:=hid (show bc s n=21 by simp [bc,h0,hn]);go_wp2_with fail;go_ret;exact ⟨by rw [HE.out];rfl,HB.out,HC.out⟩
   ·have hn2:(1:Int)≤n:=by omega
    by_cases hg:s.h.pages≤n
    ·have HE:=hid (show bc s n=21 by simp [bc,h0,hg]);go_wp2_with fail;go_ret;exact ⟨by rw [HE.out];rfl,HB.out,HC.out⟩
    ·have HE:=hid (show bc s n=0 by simp [bc,h0,hn,hg]);have hg2:n<s.h.pages:=by omega
     go_wp2_with fail;go_ret;exact ⟨by rw [HE.out];rfl,HB.out,HC.out⟩
  ·have HS:=hid (show bl s=s by simp [bl,hp]);have hp2:s.left≤0:=by omega
   have HB:=hid (show ShIs w gs gm (bl s) by rw [HS.out];exact H.out);by_cases hn:n<1
   ·have HE:=hid (show bc s n=21 by simp [bc,h0,hn]);go_wp2_with fail;go_ret;exact ⟨by rw [HE.out];rfl,HB.out,Ch.refl _ _⟩
   ·have hn2:(1:Int)≤n:=by omega
    by_cases hg:s.h.pages≤n
    ·have HE:=hid (show bc s n=21 by simp [bc,h0,hg]);go_wp2_with fail;go_ret;exact ⟨by rw [HE.out];rfl,HB.out,Ch.refl _ _⟩
    ·have HE:=hid (show bc s n=0 by simp [bc,h0,hn,hg]);have hg2:n<s.h.pages:=by omega
     go_wp2_with fail;go_ret;exact ⟨by rw [HE.out];rfl,HB.out,Ch.refl _ _⟩
theorem pf {s:Sf} {n:Int} (h:bc s n=0):1≤n∧n<s.h.pages:=by
 unfold bc at h
 split at h
 ·cases h
 ·split at h
  ·cases h
  ·omega
theorem eA (s:Sf):(bl s).B=s.B:=by unfold bl;split <;> rfl
def fS (s:Sf) (n:Int):List UInt8:=if bc s n=0 then s.B n else []
theorem mD (n:Int) (gs gm:Nat) (s:Sf) (w:World) (h:ShIs w gs gm s):
  Calls Tryz.prog 139 #[.pointer (some ⟨gs,0,none⟩),.int .i64 n] w fun e w'=>e=.returned (.tuple #[.string (al (fS s n)),.int .i64 (bc s n)])∧ShIs w' gs gm (bl s)∧Ch (fun k=>k=gs) w w':=by
 have HP:=hid h.ok.h.p2;go_enter Tryz.func139,Tryz.ntmps139;go_wp2_with fail;refine (c9 n gs gm s w h).mono ?_;rintro e w1 ⟨rfl,hs,hc⟩;have HS:=hid hs;have HC:=hid hc;obtain ⟨-,-,-,-,-,-,-,a7,-,a9,-⟩:=gq hs.blk;clear h hs hc;obtain ⟨be,hbe⟩:∃ be,be=bc s n:=⟨_,rfl⟩;rw [← hbe];have HBE:=hid hbe;clear hbe;by_cases h0:be=0
 ·obtain ⟨q0,q1⟩:=pf (HBE.out.symm.trans h0);have HV:=hid (show fS s n=s.B n by unfold fS;rw [← HBE.out,if_pos h0]);have HBK:=hid (show BookIs w1 gm s.B from eA s ▸ HS.out.book);subst h0;go_wp2_with fail;refine (js n gm s.B w1 HBK.out (jy (by omega) (by have:=HP.out;omega))).mono ?_;rintro e w2 ⟨rfl,hb⟩;have HB2:=hid hb;clear hb;go_wp2_with fail;go_ret2;rw [HV.out];exact ⟨by rw [← HBE.out];rfl,HS.out.ch (Ch.of_below (S:=fun _=>False) HB2.out) id id,HC.out.trans (Ch.of_below HB2.out)⟩
 ·have hb1:(be == 0)=false:=by simpa using h0
  have HV:=hid (show fS s n=[] by unfold fS;rw [← HBE.out,if_neg h0]);go_wp2_with fail;go_ret2;rw [HV.out];exact ⟨by rw [← HBE.out];rfl,HS.out,HC.out⟩
def hZ (s:Sf) (n:Int) (l:List UInt8):Int:=if bc s n=0 then if l.length=232 then 0 else 1 else bc s n
def iW (s:Sf) (n:Int) (l:List UInt8):Sf:=if bc s n=0∧l.length=232 then { bl s with B:=bx s.B n l } else bl s
theorem bW {B:Int→List UInt8} (h:∀ n,(B n).length=232) {n:Int} {l:List UInt8} (hl:l.length=232):∀ m,(bx B n l m).length=232:=fun m=>by
 unfold bx;split <;> simp [*]
theorem jS (n:Int) (d:ByteArray) (gs gm:Nat) (s:Sf) (w:World) (h:ShIs w gs gm s):
  Calls Tryz.prog 19 #[.pointer (some ⟨gs,0,none⟩),.int .i64 n,.string d] w fun e w'=>e=.returned (.int .i64 (hZ s n (bs d)))∧ShIs w' gs gm (iW s n (bs d))∧Ch (fun k=>k=gs∨k=gm) w w':=by
 have HP:=hid h.ok.h.p2;have HK:=hid h.ok;have hbs:=ff d;go_enter Tryz.func19,Tryz.ntmps19;go_wp2_with fail;refine (c9 n gs gm s w h).mono ?_;rintro e w1 ⟨rfl,hs,hc⟩;have HS:=hid hs;have HC:=hid (hc.mono (S':=fun k=>k=gs∨k=gm) (fun _ _ e=>.inl e));obtain ⟨-,-,-,-,-,-,-,a7,-,a9,-⟩:=gq hs.blk;clear h hs hc;obtain ⟨be,hbe⟩:∃ be,be=bc s n:=⟨_,rfl⟩;rw [← hbe];have HBE:=hid hbe;clear hbe;by_cases h0:be=0
 ·obtain ⟨q0,q1⟩:=pf (HBE.out.symm.trans h0);have HBK:=hid (show BookIs w1 gm s.B from eA s ▸ HS.out.book);by_cases hl:d.size=232
  ·have HV:=hid (show hZ s n (bs d)=0∧iW s n (bs d)={ bl s with B:=bx s.B n (bs d) } by
    unfold hZ iW;rw [← HBE.out,if_pos h0,if_pos (by rw [hbs];exact hl),if_pos ⟨h0,by rw [hbs];exact hl⟩];exact ⟨rfl,rfl⟩)
   have HKN:=hid (show Sf.Ok { bl s with B:=bx s.B n (bs d) } from ⟨(gZ HK.out).h,bW HK.out.l (by rw [hbs];exact hl),(gZ HK.out).l0,(gZ HK.out).l1⟩);have hl2:(d.size:Int)=232:=by omega
   subst h0;go_wp2_with fail;refine (jr n d gm s.B w1 HBK.out (by omega) (by have:=HP.out;omega)).mono ?_;rintro e w2 ⟨rfl,hbk,hch⟩;have HB2:=hid hbk;have HC2:=hid hch;clear hbk hch;go_wp2_with fail;go_ret;refine ⟨by rw [HV.out.1];rfl,?_,HC.out.trans (HC2.out.mono (fun _ _ e=>.inr e))⟩;rw [HV.out.2];exact ⟨HC2.out.keep HS.out.blk (fun e=>HS.out.ne e.symm),HB2.out,HS.out.ne,HKN.out⟩
  ·have HV:=hid (show hZ s n (bs d)=1∧iW s n (bs d)=bl s by
    unfold hZ iW;rw [← HBE.out,if_pos h0,if_neg (by rw [hbs];exact hl),if_neg (fun h=>hl (by rw [← hbs];exact h.2))];exact ⟨rfl,rfl⟩)
   have hl2:((d.size:Int) == 232)=false:=by simp;omega
   subst h0;go_wp2_with fail;go_ret;exact ⟨by rw [HV.out.1];rfl,by rw [HV.out.2];exact HS.out,HC.out⟩
 ·have hb1:(be == 0)=false:=by simpa using h0
  have HV:=hid (show hZ s n (bs d)=be∧iW s n (bs d)=bl s by
   unfold hZ iW;rw [← HBE.out,if_neg h0,if_neg (fun h=>h0 h.1)];exact ⟨rfl,rfl⟩)
  go_wp2_with fail;go_ret;exact ⟨by rw [HV.out.1];rfl,by rw [HV.out.2];exact HS.out,HC.out⟩
def freshH:Hd:=⟨1,1,0,0,0,0⟩
def tc (n:Int):Int:=min (max n 1) 4096
def ma (n:Int):Sf:=⟨tc n,freshH,fun _=>blankL,-1⟩
theorem p8:freshH.Ok:=⟨by decide,by decide,by decide,by decide,by decide,by decide⟩
theorem cG:blankL.length=232:=List.length_replicate
theorem rY (n:Int):(ma n).Ok:=⟨p8,fun _=>cG,by show (-1:Int)≤-1;omega,by show (-1:Int)≤1000000000;omega⟩
theorem p7 (w:World):Calls Tryz.prog 48 #[] w fun e w'=>e=.returned (.agg #[.int .i64 1,.int .i64 1,.int .i64 0,.int .i64 0,.int .i64 0,.int .u64 0])∧Below w.heap.size w w':=by go_enter Tryz.func48,Tryz.ntmps48;go_wp2_with fail;obtain ⟨q0,q1,q2,q3,q4,q5,q6⟩:=au (ag (w0:=w) (g:=w.heap.size) (o:=cQ freshH) rfl);exact bodyPost_ret (v:=.agg #[.int .i64 1,.int .i64 1,.int .i64 0,.int .i64 0,.int .i64 0,.int .u64 0]) (by simp [results,Tryz.results48,go_sem]) rfl ⟨rfl,(Below.refl _ w).alloc (Nat.le_refl _) _⟩
theorem px (gs gm:Nat) (s:Sf) (w:World) (h:ShIs w gs gm s):
  Calls Tryz.prog 29 #[.pointer (some ⟨gs,0,none⟩)] w fun e w'=>e=.returned (.agg #[.int .i64 s.h.mode,.int .i64 s.h.pages,.int .i64 s.h.trunk,.int .i64 s.h.spare,.int .i64 s.h.root,.int .u64 s.h.change])∧Below w.heap.size w w':=by
 obtain ⟨a0,a1,a2,a3,a4,a5,a6,a7,a8,a9,-⟩:=gq h.blk;go_enter Tryz.func29,Tryz.ntmps29;go_wp2_with fail;exact bodyPost_ret (v:=.agg #[.int .i64 s.h.mode,.int .i64 s.h.pages,.int .i64 s.h.trunk,.int .i64 s.h.spare,.int .i64 s.h.root,.int .u64 s.h.change]) (by simp [results,Tryz.results29,go_sem]) rfl ⟨rfl,(Below.refl _ w).alloc (Nat.le_refl _) _⟩
theorem g9 (n:Int) (w:World):
  Calls Tryz.prog 15 #[.int .i64 n] w fun e w'=>∃ gs gm,e=.returned (.pointer (some ⟨gs,0,none⟩))∧ShIs w' gs gm (ma n)∧w.heap.size≤gs∧w.heap.size≤gm∧Below w.heap.size w w':=by
 go_enter Tryz.func15,Tryz.ntmps15;go_wp2_with fail;refine (p7 w).mono ?_;rintro e w1 ⟨rfl,hb⟩;have HB:=hid hb;clear hb;go_wp2_with fail;have HBK:=hid (BookIs.made w1);have HB2:=hid (HB.out.alloc HB.out.size (.map #[] 0));rw [run_makeMap];simp only [Result.andThen];go_wp2_with fail;go_ret;refine ⟨_,w1.heap.size,rfl,⟨ag (by simp),?_,by simp,rY n⟩,?_,HB.out.size,?_⟩
 ·exact HBK.out.ch (Ch.alloc (Ch.refl (fun _=>False) _) _) id
 ·have:=HB.out.size;simp;omega
 ·exact HB2.out.alloc HB2.out.size _
theorem tK (n:Int) (gs gm:Nat) (s:Sf) (w:World) (h:ShIs w gs gm s) (h1:n≤1000000000):
  Calls Tryz.prog 31 #[.pointer (some ⟨gs,0,none⟩),.int .i64 n] w fun e w'=>e=.returned (.tuple #[])∧ShIs w' gs gm { s with left:=max n 0 - 1 }∧Ch (fun k=>k=gs) w w':=by
 obtain ⟨a0,a1,a2,a3,a4,a5,a6,a7,a8,a9,a10⟩:=gq h.blk;have b8:=a10 8;have H:=hid h;clear h a10;go_enter Tryz.func31,Tryz.ntmps31;go_wp2_with fail;refine bodyPost_end (results_none rfl _ _ _) rfl ⟨rfl,?_,(Ch.refl (fun j=>j=gs) w).setCell (p:=⟨gs,8,none⟩) rfl _⟩;exact ⟨kD H.out.blk _,H.out.book.ch ((Ch.refl (fun j=>j=gs) w).setCell (p:=⟨gs,8,none⟩) rfl _) H.out.ne,H.out.ne,⟨H.out.ok.h,H.out.ok.l,by show (-1:Int)≤max n 0 - 1;omega,by show max n 0 - 1≤1000000000;omega⟩⟩
end Go.Proofs.YtknioodagnjchaaGreatDoor
namespace Go.Proofs.YtknioodagnjchaaGreatDoor
structure Given where
 h:Hd
 e:Int
 B:Int→List UInt8
def fR (B:Int→List UInt8) (e:Int):Given:=⟨Hd.zero,e,B⟩
def cu (h:Hd) (B:Int→List UInt8) (n:Int):Given:=
 if n<1∨h.pages≤n then fR B 1
 else if h.pages - 1≤h.spare then fR B 30
 else if h.trunk=0 then ⟨{ h with trunk:=n,spare:=h.spare+1 },0,bx B n (aD (eV ⟨0,[]⟩))⟩
 else if di (B h.trunk)=false then fR B 30
 else if (cI (B h.trunk)).list.length<50 then ⟨{ h with spare:=h.spare+1 },0,bx B h.trunk (aD (eV ⟨(cI (B h.trunk)).next,(cI (B h.trunk)).list ++ [n]⟩))⟩
 else ⟨{ h with trunk:=n,spare:=h.spare+1 },0,bx B n (aD (eV ⟨h.trunk,[]⟩))⟩
abbrev By:=List UInt8
def bK (a b:By):Bool:=Op.bytesLess a b
theorem klt_cons {a b:UInt8} {x y:By}:bK (a :: x) (b :: y)=true↔a<b∨a=b∧bK x y=true:=by simp [bK,Op.bytesLess]
theorem jE (x:By):bK x []=false:=by cases x <;> rfl
theorem dA:∀ a:By,bK a a=false
 | []=>rfl
 | a :: x=>by
   cases h:bK (a :: x) (a :: x)
   ·rfl
   ·rcases klt_cons.1 h with h | ⟨_,h⟩
    ·exact absurd h (by simp)
    ·rw [dA x] at h;cases h
theorem cX:∀ {a b c:By},bK a b=true→bK b c=true→bK a c=true
 | _,[],_,h,_=>by rw [jE] at h;cases h
 | _,_,[],_,h=>by rw [jE] at h;cases h
 | [],_ :: _,_ :: _,_,_=>rfl
 | a :: x,b :: y,c :: z,h1,h2=>by
   rw [klt_cons] at *;rcases h1 with h1 | ⟨rfl,h1⟩
   ·rcases h2 with h2 | ⟨rfl,h2⟩
    ·exact .inl (UInt8.lt_trans h1 h2)
    ·exact .inl h1
   ·rcases h2 with h2 | ⟨rfl,h2⟩
    ·exact .inl h2
    ·exact .inr ⟨rfl,cX h1 h2⟩
theorem fM:∀ a b:By,bK a b=true∨a=b∨bK b a=true
 | [],[]=>.inr (.inl rfl)
 | [],_ :: _=>.inl rfl
 | _ :: _,[]=>.inr (.inr rfl)
 | a :: x,b :: y=>by
   rw [klt_cons,klt_cons];rcases UInt8.lt_or_lt_of_ne (a:=a) (b:=b) |> fun f=>(Decidable.em (a=b)).elim (fun h=>Or.inr h) (fun h=>Or.inl (f h)) with h | rfl
   ·rcases h with h | h
    ·exact .inl (.inl h)
    ·exact .inr (.inr (.inl h))
   ·rcases fM x y with h | rfl | h
    ·exact .inl (.inr ⟨rfl,h⟩)
    ·exact .inr (.inl rfl)
    ·exact .inr (.inr (.inr ⟨rfl,h⟩))
theorem bg {a b:By} (h:bK a b=true):bK b a=false:=by
 cases h2:bK b a
 ·rfl
 ·have:=cX h h2;rw [dA] at this;cases this
theorem fN {a b:By} (h:bK a b=true):a≠b:=fun e=>by rw [e,dA] at h;cases h
theorem oe {a b:By} (h:bK a b=false) (hne:a≠b):bK b a=true:=by
 rcases fM a b with h2 | h2 | h2
 ·rw [h] at h2;cases h2
 ·exact absurd h2 hne
 ·exact h2
theorem d8 {a b c:By} (h:bK b a=false) (h2:bK b c=true):bK a c=true:=by
 rcases fM a b with h3 | rfl | h3
 ·exact cX h3 h2
 ·exact h2
 ·rw [h] at h3;cases h3
theorem dr {a b c:By} (h:bK a b=true) (h2:bK c b=false):bK a c=true:=by
 rcases fM b c with h3 | rfl | h3
 ·exact cX h h3
 ·exact h
 ·rw [h2] at h3;cases h3
theorem lz {a b c:By} (h:bK b a=false) (h2:bK c b=false):bK c a=false:=by
 cases h3:bK c a
 ·rfl
 ·have:=dr h3 h;rw [h2] at this;cases this
structure Ce where
 size:Int
 data:By
 page:Int
deriving DecidableEq
structure Nd where
 leaf:Bool
 keys:List By
 cells:List Ce
 kids:List Int
deriving DecidableEq
def Nd.zero:Nd:=⟨false,[],[],[]⟩
def cm (n:Int):Bool:=decide (1≤n) && decide (n<4096)
def aE (c:Ce):Bool:=
 if c.size<0∨5000<c.size then false
 else if c.size≤40 then decide ((c.data.length:Int)=c.size) && decide (c.page=0)
 else decide (c.data=[]) && cm c.page
def aO:List By→Bool
 | []=>true
 | [k]=>decide (k.length≤64)
 | a :: b :: r=>decide (a.length≤64) && bK a b && aO (b :: r)
def bP (l:List Int):Bool:=decide l.Nodup && l.all cm
def aB (n:Nd):Bool:=
 aO n.keys && if n.leaf then decide (n.cells.length=n.keys.length) && decide (n.kids=[]) && n.cells.all aE
  else decide (n.keys≠[]) && decide (n.kids.length=n.keys.length+1) && decide (n.cells=[]) && bP n.kids
def fA (c:Ce):By:=bh c.size.toNat ++ if 40<c.size then aK 4 c.page.toNat else c.data
def e9 (k:By):By:=bh k.length ++ k
def bC:List By→List Ce→By
 | k :: ks,c :: cs=>e9 k ++ fA c ++ bC ks cs
 | _,_=>[]
def dR:List By→List Int→By
 | k :: ks,d :: ds=>e9 k ++ aK 4 d.toNat ++ dR ks ds
 | _,_=>[]
def ar (n:Nd):By:=
 (if n.leaf then 1 else 2) :: (aK 2 n.keys.length ++ if n.leaf then bC n.keys n.cells else aK 4 (n.kids.getD 0 0).toNat ++ dR n.keys n.kids.tail)
def g8 (n:Nd):Nat:=if aB n then (ar n).length else 0
structure Rd where
 rest:By
 bad:Bool
def cg (r:Rd) (n:Nat):By × Rd:=if r.rest.length<n then ([],⟨r.rest,true⟩) else (r.rest.take n,⟨r.rest.drop n,r.bad⟩)
def bn (r:Rd):Nat × Rd:=if (fU r.rest).2.2≠0∨5000<(fU r.rest).1 then (0,⟨r.rest,true⟩) else ((fU r.rest).1,⟨r.rest.drop (fU r.rest).2.1,r.bad⟩)
def cO (r:Rd):Nat × Rd:=(bM (cg r 4).1,(cg r 4).2)
def dg (r:Rd):Ce × Rd:=
 if 40<(bn r).1 then (⟨(bn r).1,[],(cO (bn r).2).1⟩,(cO (bn r).2).2)
 else (⟨(bn r).1,(cg (bn r).2 (bn r).1).1,0⟩,(cg (bn r).2 (bn r).1).2)
def dq (r:Rd):By × Rd:=cg (bn r).2 (bn r).1
def iF:Nat→Rd→Nd→Rd × Nd
 | 0,r,n=>(r,n)
 | c+1,r,n=>
   if r.bad then (r,n)
   else if n.leaf then iF c (dg (dq r).2).2 { n with keys:=n.keys ++ [(dq r).1],cells:=n.cells ++ [(dg (dq r).2).1] }
   else iF c (cO (dq r).2).2 { n with keys:=n.keys ++ [(dq r).1],kids:=n.kids ++ [((cO (dq r).2).1:Int)] }
def aS (l:By):Rd × Nd:=
 if l.getD 0 0=1 then (⟨l.drop 3,false⟩,⟨true,[],[],[]⟩)
 else ((cO ⟨l.drop 3,false⟩).2,⟨false,[],[],[((cO ⟨l.drop 3,false⟩).1:Int)]⟩)
def de (l:By):Rd × Nd:=iF (bM ((l.drop 1).take 2)) (aS l).1 (aS l).2
def jJ (l:By):Bool:=!(de l).1.bad && aB (de l).2 && decide ((ar (de l).2).length≤232) && decide (aD (ar (de l).2)=l)
def cN (l:By):Option Nd:=if jJ l then some (de l).2 else none
theorem du {l:By} {n:Nd} (h:cN l=some n):aB n=true∧(ar n).length≤232∧aD (ar n)=l:=by
 unfold cN at h
 split at h
 ·rename_i hf
  injection h with h
  subst h;simp only [jJ,Bool.and_eq_true,decide_eq_true_eq] at hf;exact ⟨hf.1.1.2,hf.1.2,hf.2⟩
 ·cases h
theorem iN {n:Nat} (hn:n≤5000) (z:By):bn ⟨bh n ++ z,false⟩=(n,⟨z,false⟩):=by unfold bn;simp only [sS (show n<16384 by omega)];rw [if_neg (by simp;omega)];simp
theorem iO (x z:By):cg ⟨x ++ z,false⟩ x.length=(x,⟨z,false⟩):=by unfold cg;simp
theorem mI {k:By} (hk:k.length≤64) (z:By):dq ⟨e9 k ++ z,false⟩=(k,⟨z,false⟩):=by unfold dq e9;rw [List.append_assoc,iN (by omega)];exact iO k z
theorem iQ {n:Nat} (hn:n<4294967296) (z:By):cO ⟨aK 4 n ++ z,false⟩=(n,⟨z,false⟩):=by have h:=iO (aK 4 n) z;rw [ay] at h;unfold cO;rw [h];simp only;rw [fg 4 n (by omega)]
theorem eR {c:Ce} (h:aE c=true) (h2:40<c.size):c.data=[]∧1≤c.page∧c.page<4096∧c.size≤5000:=by
 unfold aE at h
 split at h
 ·cases h
 ·split at h
  ·omega
  ·simp [cm] at h;exact ⟨h.1,h.2.1,h.2.2,by omega⟩
theorem eS {c:Ce} (h:aE c=true) (h2:¬ 40<c.size):0≤c.size∧(c.data.length:Int)=c.size∧c.page=0:=by
 unfold aE at h
 split at h
 ·cases h
 ·split at h
  ·simp at h;exact ⟨by omega,h.1,h.2⟩
  ·omega
theorem pF {c:Ce} (hc:aE c=true) (z:By):dg ⟨fA c ++ z,false⟩=(c,⟨z,false⟩):=by
 obtain ⟨sz,da,pg⟩:=c;by_cases h:40<sz
 ·obtain ⟨h1,h2,h3,h4⟩:=eR hc h;simp only at h1 h2 h3 h4;subst h1;unfold dg fA;simp only;rw [if_pos h,List.append_assoc,iN (by omega)];simp only;rw [if_pos (by omega),iQ (by omega)];simp only [Prod.mk.injEq,Ce.mk.injEq,and_true,true_and];omega
 ·obtain ⟨h1,h2,h3⟩:=eS hc h;simp only at h1 h2 h3;subst h3;unfold dg fA;simp only;rw [if_neg h,List.append_assoc,iN (by omega)];simp only;rw [if_neg (by omega),show sz.toNat=da.length by omega,iO];simp only [Prod.mk.injEq,Ce.mk.injEq,and_true];omega
theorem bF:∀ {l:List By},aO l=true→∀ k ∈ l,k.length≤64
 | [],_,k,hk=>absurd hk List.not_mem_nil
 | [a],h,k,hk=>by
   rw [List.mem_singleton.1 hk];simpa [aO] using h
 | a :: b :: r,h,k,hk=>by
   simp only [aO,Bool.and_eq_true,decide_eq_true_eq] at h;rcases List.mem_cons.1 hk with rfl | hk
   ·exact h.1.1
   ·exact bF h.2 k hk
theorem nr:∀ (ks:List By) (cs:List Ce) (z:By) (n:Nd),n.leaf=true→cs.length=ks.length→(∀ k ∈ ks,k.length≤64)→(∀ c ∈ cs,aE c=true)→
  iF ks.length ⟨bC ks cs ++ z,false⟩ n=(⟨z,false⟩,⟨true,n.keys ++ ks,n.cells ++ cs,n.kids⟩)
 | [],cs,z,n,hl,hn,_,_=>by
   have:cs=[]:=List.eq_nil_of_length_eq_zero hn;subst this;obtain ⟨nl,nk,nc,nd⟩:=n;simp only at hl;subst hl;simp [iF,bC]
 | k :: ks,[],_,_,_,hn,_,_=>by simp at hn
 | k :: ks,c :: cs,z,n,hl,hn,hk,hc=>by
   rw [List.length_cons,iF,if_neg (by simp),if_pos hl];simp only [bC];rw [show e9 k ++ fA c ++ bC ks cs ++ z=e9 k ++ (fA c ++ (bC ks cs ++ z)) by simp,mI (hk k List.mem_cons_self)];simp only;rw [pF (hc c List.mem_cons_self)];simp only;rw [nr ks cs z { n with keys:=n.keys ++ [k],cells:=n.cells ++ [c] } hl (by simpa using hn) (fun x hx=>hk x (List.mem_cons_of_mem _ hx)) (fun x hx=>hc x (List.mem_cons_of_mem _ hx))];simp
theorem lE:∀ (ks:List By) (ds:List Int) (z:By) (n:Nd),n.leaf=false→ds.length=ks.length→(∀ k ∈ ks,k.length≤64)→(∀ d ∈ ds,cm d=true)→
  iF ks.length ⟨dR ks ds ++ z,false⟩ n=(⟨z,false⟩,⟨false,n.keys ++ ks,n.cells,n.kids ++ ds⟩)
 | [],ds,z,n,hl,hn,_,_=>by
   have:ds=[]:=List.eq_nil_of_length_eq_zero hn;subst this;obtain ⟨nl,nk,nc,nd⟩:=n;simp only at hl;subst hl;simp [iF,dR]
 | k :: ks,[],_,_,_,hn,_,_=>by simp at hn
 | k :: ks,d :: ds,z,n,hl,hn,hk,hc=>by
   have hd:=hc d List.mem_cons_self;simp only [cm,Bool.and_eq_true,decide_eq_true_eq] at hd;rw [List.length_cons,iF,if_neg (by simp),if_neg (by rw [hl];simp)];simp only [dR];rw [show e9 k ++ aK 4 d.toNat ++ dR ks ds ++ z=e9 k ++ (aK 4 d.toNat ++ (dR ks ds ++ z)) by simp,mI (hk k List.mem_cons_self)];simp only;rw [iQ (by omega)];simp only;rw [lE ks ds z { n with keys:=n.keys ++ [k],kids:=n.kids ++ [(d.toNat:Int)] } hl (by simpa using hn) (fun x hx=>hk x (List.mem_cons_of_mem _ hx)) (fun x hx=>hc x (List.mem_cons_of_mem _ hx))];simp;omega
theorem ly:∀ (ks:List By) (cs:List Ce),cs.length=ks.length→ks.length≤(bC ks cs).length
 | [],_,_=>by simp [bC]
 | k :: ks,[],h=>by simp at h
 | k :: ks,c :: cs,h=>by
   have:=ly ks cs (by simpa using h);have h2:=cJ k.length;have:1≤(bh k.length).length:=by rw [h2];split <;> omega
   simp [bC,e9];omega
theorem na:∀ (ks:List By) (ds:List Int),ds.length=ks.length→ks.length≤(dR ks ds).length
 | [],_,_=>by simp [dR]
 | k :: ks,[],h=>by simp at h
 | k :: ks,d :: ds,h=>by
   have:=na ks ds (by simpa using h);simp [dR,e9,ay];omega
theorem bS {n:Nd} (h:aB n=true) (hl:n.leaf=true):aO n.keys=true∧n.cells.length=n.keys.length∧n.kids=[]∧∀ c ∈ n.cells,aE c=true:=by unfold aB at h;rw [if_pos hl] at h;simp only [Bool.and_eq_true,decide_eq_true_eq,List.all_eq_true] at h;exact ⟨h.1,h.2.1.1,h.2.1.2,h.2.2⟩
theorem aI {n:Nd} (h:aB n=true) (hl:n.leaf=false):aO n.keys=true∧n.keys≠[]∧n.kids.length=n.keys.length+1∧n.cells=[]∧n.kids.Nodup∧∀ d ∈ n.kids,cm d=true:=by unfold aB at h;rw [if_neg (by rw [hl];simp)] at h;simp only [Bool.and_eq_true,decide_eq_true_eq,List.all_eq_true,bP] at h;exact ⟨h.1,h.2.1.1.1,h.2.1.1.2,h.2.1.2,h.2.2.1,h.2.2.2⟩
theorem fd {ks:List By} {cs:List Ce} (h1:aO ks=true) (h2:cs.length=ks.length) (h3:∀ c ∈ cs,aE c=true):aB ⟨true,ks,cs,[]⟩=true:=by simp [aB,h1,h2];exact h3
theorem dM {ks:List By} {ds:List Int} (h1:aO ks=true) (h0:ks≠[]) (h2:ds.length=ks.length+1) (h3:ds.Nodup) (h4:∀ d ∈ ds,cm d=true):aB ⟨false,ks,[],ds⟩=true:=by simp [aB,h1,h2,h0,bP,h3];exact h4
theorem hG {n:Nd} (h:aB n=true):n.keys.length+3≤(ar n).length:=by
 unfold ar;cases hl:n.leaf
 ·obtain ⟨_,h0,h2,h3,_⟩:=aI h hl;have:=na n.keys n.kids.tail (by rw [List.length_tail];omega);simp [ay];omega
 ·obtain ⟨_,h2,_⟩:=bS h hl;have:=ly n.keys n.cells h2;simp [ay];omega
theorem jg {l:By} (h:l.length≤232):aD l=l ++ List.replicate (232 - l.length) 0:=by unfold aD;rw [List.take_of_length_le h]
theorem ru {n:Nd} (h:aB n=true) (h2:(ar n).length≤232):cN (aD (ar n))=some n:=by
 have hk:=hG h;have hraw:(de (aD (ar n))).1.bad=false∧(de (aD (ar n))).2=n:=by
  rw [jg h2];generalize List.replicate (232 - (ar n).length) (0:UInt8)=z;unfold de;have hc:bM (((ar n ++ z).drop 1).take 2)=n.keys.length:=by unfold ar;rw [List.cons_append,List.drop_succ_cons,List.drop_zero,List.append_assoc,List.take_append_of_le_length (by rw [ay];omega),List.take_of_length_le (by rw [ay];omega)];exact fg 2 _ (by omega)
  rw [hc];cases hl:n.leaf
  ·obtain ⟨hr,h0,hd,h3,h5,h6⟩:=aI h hl;have hs:aS (ar n ++ z)=(⟨dR n.keys n.kids.tail ++ z,false⟩,⟨false,[],[],[n.kids.getD 0 0]⟩):=by
    have hd0:cm (n.kids.getD 0 0)=true:=by
     cases hkk:n.kids with
     | nil=>rw [hkk] at hd;simp at hd
     | cons a l=>exact h6 a (by rw [hkk];simp)
    simp only [cm,Bool.and_eq_true,decide_eq_true_eq] at hd0;have hb:ar n ++ z=2 :: (aK 2 n.keys.length ++ (aK 4 (n.kids.getD 0 0).toNat ++ (dR n.keys n.kids.tail ++ z))):=by unfold ar;rw [hl];simp
    unfold aS;rw [hb];rw [if_neg (by simp)];rw [show List.drop 3 ((2:UInt8) :: (aK 2 n.keys.length ++ (aK 4 (n.kids.getD 0 0).toNat ++ (dR n.keys n.kids.tail ++ z))))=aK 4 (n.kids.getD 0 0).toNat ++ (dR n.keys n.kids.tail ++ z) by
     rw [List.drop_succ_cons,List.drop_left' (ay 2 _)]]
    rw [iQ (by omega)];simp only [Prod.mk.injEq,true_and,Nd.mk.injEq,List.cons.injEq,and_true];omega
   rw [hs];simp only;rw [lE n.keys n.kids.tail z ⟨false,[],[],[n.kids.getD 0 0]⟩ rfl (by rw [List.length_tail];omega) (bF hr) (fun d hd=>h6 d (List.mem_of_mem_tail hd))];refine ⟨rfl,?_⟩;obtain ⟨nl,nk,nc,nd⟩:=n;simp only at hl h3 hd ⊢;subst hl h3;cases nd with
   | nil=>simp at hd
   | cons a l=>rfl
  ·obtain ⟨hr,h3,h4,h5⟩:=bS h hl;have hs:aS (ar n ++ z)=(⟨bC n.keys n.cells ++ z,false⟩,⟨true,[],[],[]⟩):=by
    have hb:ar n ++ z=1 :: (aK 2 n.keys.length ++ (bC n.keys n.cells ++ z)):=by unfold ar;rw [hl];simp
    unfold aS;rw [hb,if_pos (by simp),List.drop_succ_cons,List.drop_left' (ay 2 _)]
   rw [hs];simp only;rw [nr n.keys n.cells z ⟨true,[],[],[]⟩ rfl h3 (bF hr) h5];refine ⟨rfl,?_⟩;obtain ⟨nl,nk,nc,nd⟩:=n;simp only at hl h4 ⊢;subst hl h4;rfl
 unfold cN;rw [if_pos]
 ·rw [hraw.2]
 ·simp only [jJ,hraw.1,hraw.2,h,h2,decide_true,Bool.not_false,Bool.and_self]
inductive Pro (α:Type) where
 | pure:α→Pro α
 | fail:Int→Pro α
 | get:Int→(By→Pro α)→Pro α
 | put:Int→By→(Unit→Pro α)→Pro α
 | new:(Int→Pro α)→Pro α
 | free:Int→(Unit→Pro α)→Pro α
def Pro.bind {α β:Type}:Pro α→(α→Pro β)→Pro β
 | .pure a,f=>f a
 | .fail e,_=>.fail e
 | .get n k,f=>.get n fun l=>(k l).bind f
 | .put n d k,f=>.put n d fun u=>(k u).bind f
 | .new k,f=>.new fun n=>(k n).bind f
 | .free n k,f=>.free n fun u=>(k u).bind f
instance:Monad Pro where
 pure:=.pure
 bind:=.bind
inductive Ans (α:Type) where
 | ok:α→Ans α
 | err:Int→Ans α
def bj (s:Sf):Int:=if s.left=0 then 11 else if s.h.spare=0∧s.lim≤s.h.pages then 22 else (bm s.h s.B).e
def bN (s:Sf):Int:=if bj s=0 then (bm s.h s.B).n else 0
def aR (s:Sf):Sf:=if bj s=0 then { bl s with h:=(bm s.h s.B).h,B:=bx (bm s.h s.B).B (bm s.h s.B).n blankL } else bl s
def co (s:Sf) (n:Int):Int:=if bc s n≠0 then bc s n else (cu s.h s.B n).e
def dh (s:Sf) (n:Int):Sf:=if co s n=0 then { bl s with h:=(cu s.h s.B n).h,B:=(cu s.h s.B n).B } else bl s
def Pro.run {α:Type}:Pro α→Sf→Sf × Ans α
 | .pure a,s=>(s,.ok a)
 | .fail e,s=>(s,.err e)
 | .get n k,s=>if bc s n=0 then (k (s.B n)).run (bl s) else (bl s,.err (bc s n))
 | .put n d k,s=>if hZ s n d=0 then (k ()).run (iW s n d) else (iW s n d,.err (hZ s n d))
 | .new k,s=>if bj s=0 then (k (bN s)).run (aR s) else (aR s,.err (bj s))
 | .free n k,s=>if co s n=0 then (k ()).run (dh s n) else (dh s n,.err (co s n))
theorem run_bind {α β:Type}:∀ (p:Pro α) (f:α→Pro β) (s:Sf),(p.bind f).run s=match (p.run s).2 with
  | .ok a=>(f a).run (p.run s).1
  | .err e=>((p.run s).1,.err e)
 | .pure a,f,s=>rfl
 | .fail e,f,s=>rfl
 | .get n k,f,s=>by
   simp only [Pro.bind,Pro.run]
   split
   ·exact run_bind _ f _
   ·rfl
 | .put n d k,f,s=>by
   simp only [Pro.bind,Pro.run]
   split
   ·exact run_bind _ f _
   ·rfl
 | .new k,f,s=>by
   simp only [Pro.bind,Pro.run]
   split
   ·exact run_bind _ f _
   ·rfl
 | .free n k,f,s=>by
   simp only [Pro.bind,Pro.run]
   split
   ·exact run_bind _ f _
   ·rfl
theorem af {α β:Type} {p:Pro α} {f:α→Pro β} {s s1:Sf} {a:α} (h:p.run s=(s1,.ok a)):(p.bind f).run s=(f a).run s1:=by rw [run_bind,h]
theorem ak {α β:Type} {p:Pro α} {f:α→Pro β} {s s1:Sf} {e:Int} (h:p.run s=(s1,.err e)):(p.bind f).run s=(s1,.err e):=by rw [run_bind,h]
def cn (l:By):Bool:=l.all (· == 0)
def dV (part:By) (next:Int):By:=3 :: (aK 4 next.toNat ++ part ++ List.replicate (227 - part.length) 0)
def ix (v:By):Nat→Int→Pro Int
 | 0,next=>.pure next
 | j+1,next=>.new fun n=>.put n (dV ((v.drop (j * 227)).take 227) next) fun _=>ix v j n
def cH (v:By):Pro Ce:=
 if 5000<v.length then .fail 47
 else if v.length≤40 then .pure ⟨v.length,v,0⟩
 else (ix v ((v.length - 1) / 227+1) 0).bind fun p=>.pure ⟨v.length,[],p⟩
def eP (l:By) (left:Nat):Option (Int × By):=
 if l.getD 0 0=3∧((bM ((l.drop 1).take 4)=0)↔left≤227)∧cn ((l.drop 5).drop left)=true then some (bM ((l.drop 1).take 4),(l.drop 5).take left) else none
def jw:Nat→Nat→Int→Pro (By × List Int)
 | 0,_,_=>.pure ([],[])
 | f+1,left,at_=>if left=0 then .pure ([],[]) else .get at_ fun l=>match eP l left with
   | none=>.fail 30
   | some (next,part)=>(jw f (left - 227) next).bind fun r=>.pure (part ++ r.1,at_ :: r.2)
def bb (c:Ce):Pro (By × List Int):=if aE c=false then .fail 1 else if c.page=0 then .pure (c.data,[]) else jw 23 c.size.toNat c.page
def dN:List Int→Pro Unit
 | []=>.pure ()
 | n :: l=>.free n fun _=>dN l
def cf (c:Ce):Pro Unit:=(bb c).bind fun r=>dN r.2
def aV (at_:Int):Pro Nd:=.get at_ fun l=>match cN l with
 | none=>.fail 30
 | some n=>.pure n
def aC (at_:Int) (n:Nd):Pro Unit:=if aB n=false∨232<(ar n).length then .fail 30 else .put at_ (aD (ar n)) .pure
def makeT:Pro Int:=.new fun n=>(aC n ⟨true,[],[],[]⟩).bind fun _=>.pure n
def bB (ks:List By) (k:By):Nat:=(ks.takeWhile fun x=>bK x k).length
def fO (ks:List By) (k:By):Bool:=decide (ks[bB ks k]?=some k)
def bT (n:Nd) (k:By):Nat:=if fO n.keys k then bB n.keys k+1 else bB n.keys k
def fV (n:Nd) (k:By):Pro (Option By):=if fO n.keys k then (bb (n.cells.getD (bB n.keys k) ⟨0,[],0⟩)).bind fun r=>.pure (some r.1) else .pure none
def bo:Nat→Int→By→Pro (Option By)
 | 0,_,_=>.fail 30
 | f+1,at_,k=>(aV at_).bind fun n=>if n.leaf then fV n k else bo f (n.kids.getD (bT n k) 0) k
def aY (n:Nd):Nat:=if !n.leaf && n.keys.isEmpty then 0 else g8 n
def bX (n:Nd):Bool:=decide (aY n≤232)
def aM (n:Nd) (i:Nat):Nd × By × Nd:=
 if n.leaf then (⟨true,n.keys.take i,n.cells.take i,[]⟩,n.keys.getD i [],⟨true,n.keys.drop i,n.cells.drop i,[]⟩)
 else (⟨false,n.keys.take i,[],n.kids.take (i+1)⟩,n.keys.getD i [],⟨false,n.keys.drop (i+1),[],n.kids.drop (i+1)⟩)
def dp (x:Nd × By × Nd):Bool:=decide (aY x.1≠0) && decide (aY x.2.2≠0) && bX x.1 && bX x.2.2
def ie (x:Nd × By × Nd):Nat:=max (aY x.1) (aY x.2.2)
def bI (n:Nd):Nat→Option (Nd × By × Nd)
 | 0=>none
 | k+1=>if dp (aM n (k+1)) then match bI n k with
     | none=>some (aM n (k+1))
     | some b=>if ie (aM n (k+1))<ie b then some (aM n (k+1)) else some b
   else bI n k
def cw (n:Nd):Nd × By × Nd:=(bI n (n.keys.length - 1)).getD (Nd.zero,[],Nd.zero)
def bw (l:Nd) (b:By) (r:Nd):Nd:=⟨l.leaf,l.keys ++ (if l.leaf then [] else [b]) ++ r.keys,l.cells ++ r.cells,l.kids ++ r.kids⟩
def dm (n:Nd) (i:Nat) (c:Nd):Pro Nd:=.new fun at_=>(aC (n.kids.getD i 0) (cw c).1).bind fun _=>(aC at_ (cw c).2.2).bind fun _=>
 .pure { n with keys:=n.keys.insertIdx i (cw c).2.1,kids:=n.kids.insertIdx (i+1) at_ }
def ct (n:Nd) (i:Nat) (l r:Nd):Pro Nd:=
 if bX (bw l (n.keys.getD i []) r) then (aC (n.kids.getD i 0) (bw l (n.keys.getD i []) r)).bind fun _=>
  .free (n.kids.getD (i+1) 0) fun _=>.pure { n with keys:=n.keys.eraseIdx i,kids:=n.kids.eraseIdx (i+1) }
 else (aC (n.kids.getD i 0) (cw (bw l (n.keys.getD i []) r)).1).bind fun _=>(aC (n.kids.getD (i+1) 0) (cw (bw l (n.keys.getD i []) r)).2.2).bind fun _=>
  .pure { n with keys:=n.keys.set i (cw (bw l (n.keys.getD i []) r)).2.1 }
def fb (c:Nd):Bool:=(c.leaf && !c.keys.isEmpty && !bX c) || (!c.leaf && !bX c)
def aX (n:Nd) (i:Nat) (c:Nd):Pro Nd:=
 if fb c then dm n i c
 else if 77≤aY c then (aC (n.kids.getD i 0) c).bind fun _=>.pure n
 else if 0<i then (aV (n.kids.getD (i - 1) 0)).bind fun l=>if l.leaf=c.leaf then ct n (i - 1) l c else .fail 30
 else (aV (n.kids.getD 1 0)).bind fun r=>if r.leaf=c.leaf then ct n 0 c r else .fail 30
def aT (act:Nd→Pro (Option Nd)) (k:By):Nat→Int→Pro (Option Nd)
 | f,at_=>(aV at_).bind fun n=>if n.leaf then act n else match f with
   | 0=>.fail 30
   | f+1=>(aT act k f (n.kids.getD (bT n k) 0)).bind fun o=>match o with
     | none=>.pure none
     | some c=>(aX n (bT n k) c).bind fun n'=>.pure (some n')
def ex (at_:Int) (n:Nd):Pro Unit:=
 if bX n then aC at_ n else .new fun only=>(dm ⟨false,[],[],[only]⟩ 0 n).bind fun t=>aC at_ t
def cT:Nat→Int→Nd→Pro Unit
 | 0,at_,n=>ex at_ n
 | f+1,at_,n=>if !n.leaf && n.keys.isEmpty then (aV (n.kids.getD 0 0)).bind fun c=>.free (n.kids.getD 0 0) fun _=>cT f at_ c else ex at_ n
def ca (act:Nd→Pro (Option Nd)) (at_:Int) (k:By):Pro Bool:=(aT act k 19 at_).bind fun o=>match o with
 | none=>.pure false
 | some n=>(cT 1 at_ n).bind fun _=>.pure true
def aH (k v:By) (n:Nd):Pro (Option Nd):=
 if fO n.keys k then (cf (n.cells.getD (bB n.keys k) ⟨0,[],0⟩)).bind fun _=>(cH v).bind fun c=>.pure (some { n with cells:=n.cells.set (bB n.keys k) c })
 else (cH v).bind fun c=>.pure (some { n with keys:=n.keys.insertIdx (bB n.keys k) k,cells:=n.cells.insertIdx (bB n.keys k) c })
def aQ (k:By) (n:Nd):Pro (Option Nd):=
 if fO n.keys k then (cf (n.cells.getD (bB n.keys k) ⟨0,[],0⟩)).bind fun _=>.pure (some { n with keys:=n.keys.eraseIdx (bB n.keys k),cells:=n.cells.eraseIdx (bB n.keys k) })
 else .pure none
def cP (at_:Int) (k v:By):Pro Unit:=if 64<k.length then .fail 1 else if 5000<v.length then .fail 47 else (ca (aH k v) at_ k).bind fun _=>.pure ()
def kx (at_:Int) (k:By):Pro Bool:=ca (aQ k) at_ k
def dO:List Ce→List Int→Pro (List Int)
 | [],out=>.pure out
 | c :: cs,out=>(bb c).bind fun r=>dO cs (out ++ r.2)
def bq:Nat→Int→List Int→Pro (List Int)
 | 0,at_,_=>(aV at_).bind fun _=>.fail 30
 | f+1,at_,out=>(aV at_).bind fun n=>if 4096≤out.length then .fail 30 else
   (dO n.cells (out ++ [at_])).bind fun o=>n.kids.foldl (fun p k=>p.bind fun o=>bq f k o) (.pure o)
def fW (root:Int):Pro (List Int):=bq 20 root []
def eu (root:Int):Pro Unit:=(fW root).bind dN
end Go.Proofs.YtknioodagnjchaaGreatDoor
