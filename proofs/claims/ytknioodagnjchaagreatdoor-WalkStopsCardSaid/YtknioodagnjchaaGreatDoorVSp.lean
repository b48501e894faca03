/- spare.Decode: the trunk of a page. A shelf's book: numbers to pages. spare.trunk, spare.lay over a shelf's book. spare.Take over a shelf's book. shelf: New, begin, Get, Put. shelf: New, Head, Arm. What spare.Give comes to, plain. Nodes as bytes, plain. What is done to pages, as programs; chains and trees as programs, plain. -/
import Derived.Test.YtknioodagnjchaaGreatDoorVTSpare
import Derived.Deep.RegionHeld3
import Derived.Maps.OwnOps
import Derived.Maps.Views
import Derived.Maps.OwnSet
import Derived.Deep.RegionWith
set_option maxRecDepth 100000
set_option maxHeartbeats 2000000
namespace Go.Proofs.YtknioodagnjchaaGreatDoor
open Go.RowKit
theorem str_ne {a b:ByteArray} (h:¬ a=b):(a.toList == b.toList)=false:=by
 rw [beq_eq_false_iff_ne,ByteArray.toList_eq,ByteArray.toList_eq]
 exact fun e=>h (bs_inj e)
def num4 (l:List UInt8):Nat:=unfN (l.take 4)
theorem num4_lt (l:List UInt8):num4 l<4294967296:=
 Nat.lt_of_lt_of_le (unfN_lt _) (Nat.le_trans (Nat.pow_le_pow_right (by decide) (show (l.take 4).length≤4 by rw [List.length_take];omega)) (by decide))
theorem spareAt_any (i:Nat) (s:ByteArray) (gb:Nat) (w:World) (h:w.heap[gb]?=some (.cells #[.string s] 9 (0,0))) (hi:i+4≤s.size) (hl:s.size≤1000000):
  Calls Tryz.prog 176 #[.int .i64 i,.pointer (some ⟨gb,0,none⟩)] w fun e w'=>e=.returned (.int .i64 (num4 ((bs s).drop i)))∧Below w.heap.size w w':=by
 have c0:=blk_cell h 0
 have hlt:=blk_lt h
 simp only [List.getElem?_toArray,List.getElem?_cons_zero] at c0
 go_enter Tryz.func176,Tryz.ntmps176
 have h1:(i:Int)+4≤(s.size:Int):=by omega
 have h2:(0:Int)≤(i:Int):=by omega
 have hz:(s.extract i (i+4)).size=4:=by
  have hbs:=bs_len s
  rw [← bs_len,bs_extract,List.length_take,List.length_drop]
  omega
 have HN:=Lib.hid (show unfN (bs (s.extract i (i+4)))=num4 ((bs s).drop i) by
  rw [bs_extract,show i+4 - i=4 by omega]
  rfl)
 have hw:((num4 ((bs s).drop i):Nat):Int)<4294967296:=by have:=num4_lt ((bs s).drop i);omega
 have HZ:=Lib.hid hz
 clear hz
 go_wp2_with fail
 refine (unfixed_any (s.extract i (i+4)) w (by rw [HZ.out];omega) (by rw [HZ.out];omega)).mono ?_
 rw [HN.out]
 rintro e w1 ⟨rfl,hb⟩
 have HB:=Lib.hid hb
 clear hb
 go_wp2_with fail
 go_ret
 exact ⟨rfl,HB.out⟩
def decP (l:List UInt8):Tk:=⟨num4 (l.drop 1),(List.range (min (l.getD 5 0).toNat 50)).map fun i=>(num4 (l.drop (6+4 * i)):Int)⟩
def decOk (l:List UInt8):Bool:=!tkBad (decP l) && fullL (tkB (decP l)) == l
def decE (l:List UInt8):Int:=if decOk l then 0 else 4
def decV (l:List UInt8):Tk:=if decOk l then decP l else ⟨0,[]⟩
def TkIs (base:Nat) (w:World) (v:Value) (t:Tk):Prop:=∃ lv,v=.agg #[.int .i64 t.next,lv]∧Own iC 1 3 base w lv t.list
theorem Own.base {α:Type} {f:α→List Value} {size:Nat} {e:TypeId} {b b':Nat} {w:World} {v:Value} {xs:List α} (h:Own f size e b w v xs) (hb:b'≤b):Own f size e b' w v xs:=
 ⟨h.1,h.2.imp id fun ⟨g,cap,cur,h1,h2,h3⟩=>⟨g,cap,cur,h1,by omega,h3⟩⟩
theorem elInt:ElemT Tryz.prog 37 3 iC 1 8:=
 ElemT.mk' (z:=.int .i64 0) Tryz.underlying37 (by kernel_rfl) (by rfl) (by omega) iC_len (by intro x u hu;simp [iC] at hu;subst hu;rfl)
theorem decP_take {l:List UInt8} {k:Nat} (h:k<min (l.getD 5 0).toNat 50):(decP l).list.take (k+1)=(decP l).list.take k ++ [(num4 (l.drop (6+4 * k)):Int)]:=by
 rw [List.take_succ_eq_append_getElem (by simp only [decP,List.length_map,List.length_range];exact h)]
 simp [decP]
theorem decP_len (l:List UInt8):(decP l).list.length=min (l.getD 5 0).toNat 50:=by simp [decP]
theorem tk_all {w:World} {g:Nat} {n:Int} {lv:Value} (h:w.heap[g]?=some (.cells #[.int .i64 n,lv] 167 (0,0))):w.cell? ⟨g,0,none⟩=some (.int .i64 n)∧w.cell? ⟨g,1,none⟩=some lv∧w.frozen? ⟨g,0,none⟩=false∧w.frozen? ⟨g,1,none⟩=false∧g<w.heap.size:=
 ⟨blk_cell h 0,blk_cell h 1,blk_frozen h 0,blk_frozen h 1,blk_lt h⟩
theorem tk_keep {w:World} {g:Nat} {n:Int} {lv:Value} (h:w.heap[g]?=some (.cells #[.int .i64 n,lv] 167 (0,0))):w.cell? ⟨g,1,none⟩=some lv∧w.frozen? ⟨g,1,none⟩=false∧g<w.heap.size:=
 ⟨blk_cell h 1,blk_frozen h 1,blk_lt h⟩
theorem spareDec_any (s:ByteArray) (w:World) (hs:s.size=232):
  Calls Tryz.prog 140 #[.string s] w fun e w'=>∃ v,e=.returned (.tuple #[v,.int .i64 (decE (bs s))])∧TkIs w.heap.size w' v (decV (bs s))∧Below w.heap.size w w':=by
 have hbs:=bs_len s
 go_enter Tryz.func140,Tryz.ntmps140
 have h1:(s.size:Int)=232:=by omega
 go_wp2_with fail
 refine (spareAt_any 1 s w.heap.size _ (blk_alloc (blk_new rfl) _) (by omega) (by omega)).mono ?_
 rintro e w1 ⟨rfl,hb1⟩
 have HX:=Lib.hid (blk_keep (blk_alloc (blk_new (w0:=w) (o:=.cells #[.string s] 9) rfl) (.cells #[.int .i64 0,.slice none 0 0] 167)) hb1)
 have HR:=Lib.hid (blk_keep (blk_new (w0:=w.alloc (.cells #[.string s] 9)) (g:=w.heap.size+1) (o:=.cells #[.int .i64 0,.slice none 0 0] 167) (by simp)) hb1)
 have HB1:=Lib.hid ((((Below.refl _ w).alloc (Nat.le_refl _) (.cells #[.string s] 9)).alloc (by simp) (.cells #[.int .i64 0,.slice none 0 0] 167)).trans (hb1.mono (by simp;omega)))
 have hz1:w.heap.size+1<w1.heap.size:=blk_lt HR.out
 have hz0:w.heap.size<w1.heap.size:=blk_lt HX.out
 obtain ⟨nx,hnx⟩:∃ nx:Int,nx=(decP (bs s)).next:=⟨_,rfl⟩
 rw [show ((num4 ((bs s).drop 1):Nat):Int)=nx from hnx.symm]
 have HNX:=Lib.hid hnx
 clear hnx
 clear hb1
 have c0:=blk_cell HX.out 0
 simp only [List.getElem?_toArray,List.getElem?_cons_zero] at c0
 have hs5:s[5]'(by omega)=(bs s).getD 5 0:=by
  rw [List.getD_eq_getElem?_getD,List.getElem?_eq_getElem (by omega),Option.getD_some]
  rfl
 obtain ⟨N,hN⟩:∃ N:Nat,N=min ((bs s).getD 5 0).toNat 50:=⟨_,rfl⟩
 have hN2:min ((((bs s).getD 5 0).toNat:Nat):Int) 50=(N:Int):=by omega
 have hN50:N≤50:=by omega
 have HDT:=Lib.hid (fun (k:Nat) (h:k<N)=>decP_take (l:=bs s) (k:=k) (by rw [← hN];exact h))
 have HDL:=Lib.hid (show (decP (bs s)).list.length=N by rw [decP_len,hN])
 clear hN
 generalize (bs s).getD 5 0=b5 at *
 have hb5:(b5.toNat:Int)≤255:=by have:=b5.toNat_lt;omega
 go_wp2_with fail
 have HI:=Lib.hid (show ∃ lv,(w1.alloc (.cells #[.int .i64 nx,.slice none 0 0] 167)).heap[w1.heap.size]?=some (.cells #[.int .i64 nx,lv] 167 (0,0))∧
   Own iC 1 3 (w1.heap.size+1) (w1.alloc (.cells #[.int .i64 nx,.slice none 0 0] 167)) lv ((decP (bs s)).list.take 0) from ⟨_,blk_new rfl,Own.nil⟩)
 have HB2:=Lib.hid ((Below.refl _ w1).alloc (Nat.le_refl _) (.cells #[.int .i64 nx,.slice none 0 0] 167))
 go_loopw [21] (fun iv wr=>∃ k:Nat,k≤N∧iv=.int .i64 k∧(∃ lv,wr.heap[w1.heap.size]?=some (.cells #[.int .i64 nx,lv] 167 (0,0))∧Own iC 1 3 (w1.heap.size+1) wr lv ((decP (bs s)).list.take k))∧Below w1.heap.size w1 wr) (fun iv _=>N - (intOf iv).toNat)
 case atStart=>exact ⟨0,Nat.zero_le _,rfl,HI.out,HB2.out⟩
 case round=>
  obtain ⟨k,hk,rfl,⟨lv,hg,ho⟩,hb⟩:=hrel
  have HG:=Lib.hid hg
  have HO:=Lib.hid ho
  have HB:=Lib.hid hb
  have HXR:=Lib.hid (blk_keep HX.out hb)
  obtain ⟨A,c,rfl⟩:=Sl.len' (ho.sl iC_len)
  clear HI HB2
  have HLN:=Lib.hid (show ((decP (bs s)).list.take k).length≤50 by rw [List.length_take];omega)
  by_cases hlt:k<N
  ·have hk0:(0:Int)≤(k:Int):=by omega
   have hk1:(k:Int)<(N:Int):=by omega
   have HT:=Lib.hid (HDT.out k hlt)
   have HAT:=Lib.hid (fun (W:World) (h:W.heap[w.heap.size]?=some (.cells #[.string s] 9 (0,0)))=>spareAt_any (6+4 * k) s w.heap.size W h (by omega) (by omega))
   rw [show (((6+4 * k:Nat)):Int)=6+4 * (k:Int) by omega] at HAT
   clear hg ho hb
   generalize (decP (bs s)).list.take k=P at *
   generalize (num4 ((bs s).drop (6+4 * k)):Int)=x at *
   go_upto_region 8 with fail
   have nA:IntKind.i64.wrap (4 * (k:Int))=4 * (k:Int):=IntWalk.i64_in _ (by omega)
   have nB:IntKind.i64.wrap (6+4 * (k:Int))=6+4 * (k:Int):=IntWalk.i64_in _ (by omega)
   obtain ⟨e1,f1,l1⟩:=tk_keep HG.out
   go_region_law (first
     | (refine step_append_sl (by rfl) (by rfl) elInt (by rfl) (by rfl) ((HO.out.below HB3.out).alloc _) (Sl.one x (by simp) iC_len (by rfl)) (by have:=HLN.out;simp [maxLen];omega) (by have:=HLN.out;simp;omega) (by have:=blk_lt HG3.out;simp;omega) ?_
        intro v' w5 ho hg hat
        obtain ⟨A5,c5,h5⟩:=Sl.len' (ho.sl iC_len)
        simp only [List.length_append,List.length_cons,List.length_nil,Nat.zero_add] at h5
        subst h5
        have HO5:=Lib.hid ho
        have HG5:=Lib.hid (show w5.heap[w1.heap.size]?=_ from (hg.block _ (by simp;have:=blk_lt HG3.out;omega) (fun e=>by have:=(HO.out.lt _ e.symm).1;omega)).trans (blk_alloc HG3.out _))
        have HB5:=Lib.hid (below_app ((HB.out.trans (HB3.out.mono HB.out.size)).alloc (by have:=blk_lt HG3.out;omega) _) hg (by simp;have:=blk_lt HG3.out;omega) (fun j hj=>by have:=(HO.out.lt j hj).1;omega))
        obtain ⟨e5,f5,l5⟩:=tk_keep HG5.out
        clear ho hg hat)
     | (go_simp
        go_at_call 176
        refine (HAT.out wr.drew HXR.out).mono ?_
        rintro e w3 ⟨rfl,hb3⟩
        have HB3:=Lib.hid (((Below.refl _ wr).drew).trans hb3)
        have HG3:=Lib.hid (blk_keep HG.out HB3.out)
        obtain ⟨e3,f3,l3⟩:=tk_keep HG3.out
        clear hb3))
   all_goals
    clear nA nB e1 f1 l1 e5 f5 l5 e3 f3 l3
    go_wp2_with fail
    go_roundw
    case rel=>
     refine ⟨k+1,by omega,by go_num,⟨_,blk_set HG5.out 1 _,?_⟩,HB5.out.setCell (Nat.le_refl _) _⟩
     rw [HT.out]
     exact HO5.out.ch ((Ch.refl (fun j=>j=w1.heap.size) w5).setCell (p:=⟨w1.heap.size,1,none⟩) rfl _) (fun j hj e=>by have:=(HO5.out.lt j hj).1;omega)
    case measure=>simp [intOf];omega
  ·have HTE:=Lib.hid (show (decP (bs s)).list.take k=(decP (bs s)).list from List.take_of_length_le (by rw [HDL.out];omega))
   rw [HTE.out] at HO
   have HT:=Lib.hid (show decP (bs s)=⟨nx,(decP (bs s)).list⟩ by rw [HNX.out])
   have hc1:=blk_cell HG.out 1
   rw [HTE.out] at hc1
   have hc0:=blk_cell HG.out 0
   have hgl:=blk_lt HG.out
   have cx:=blk_cell HXR.out 0
   have hxl:=blk_lt HXR.out
   have HRR:=Lib.hid (blk_keep HR.out HB.out)
   have HLL:=Lib.hid (show (decP (bs s)).list.length≤1000000 by rw [HDL.out];omega)
   clear hg ho hb HLN HTE HG HDL HDT HXR
   simp only [List.getElem?_toArray,List.getElem?_cons_succ,List.getElem?_cons_zero] at hc0 hc1 cx
   generalize (decP (bs s)).list=P at *
   go_wp2_with fail
   refine (spareEnc_any ⟨nx,P⟩ _ wr (HO.out.sl iC_len) HLL.out).mono ?_
   rintro e w3 ⟨rfl,hb3⟩
   have HB3:=Lib.hid hb3
   have HR3:=Lib.hid (blk_keep HRR.out hb3)
   have hc0:=(hb3.cell (p:=⟨w1.heap.size,0,none⟩) hgl).trans hc0
   have hc1:=(hb3.cell (p:=⟨w1.heap.size,1,none⟩) hgl).trans hc1
   have cx:=(hb3.cell (p:=⟨w.heap.size,0,none⟩) hxl).trans cx
   have hgl:=Nat.lt_of_lt_of_le hgl hb3.size
   have hxl:=Nat.lt_of_lt_of_le hxl hb3.size
   obtain ⟨r0,r1,r2,r3,r4⟩:=tk_all HR3.out
   clear hb3
   have HBF:=Lib.hid (HB1.out.trans ((HB.out.trans (HB3.out.mono HB.out.size)).mono HB1.out.size))
   have HD:=Lib.hid (show decOk (bs s)=(!tkBad ⟨nx,P⟩ && fullL (tkB ⟨nx,P⟩) == bs s) by unfold decOk;rw [HT.out])
   cases hbad:tkBad ⟨nx,P⟩
   ·rw [show tkR ⟨nx,P⟩=.tuple #[.string (mkS (fullL (tkB ⟨nx,P⟩))),.int .i64 0] by unfold tkR;rw [hbad];rfl]
    rw [hbad] at HD
    generalize fullL (tkB ⟨nx,P⟩)=F at *
    by_cases hF:F=bs s
    ·have HE:=Lib.hid (show decE (bs s)=0∧decV (bs s)=⟨nx,P⟩ by
      have:decOk (bs s)=true:=by rw [HD.out,hF];simp
      unfold decE decV
      rw [if_pos this,if_pos this,HT.out]
      exact ⟨rfl,rfl⟩)
     clear HD hbad
     subst hF
     rw [mkS_bs]
     go_wp2_with fail
     have hx:=blk_set (blk_set HR3.out 0 (.int .i64 nx)) 1 (.slice A P.length c)
     obtain ⟨q0,q1,-⟩:=tk_all hx
     exact bodyPost_ret (v:=.tuple #[.agg #[.int .i64 nx,.slice A P.length c],.int .i64 (decE (bs s))]) (by rw [HE.out.1];simp [results,Tryz.results140,go_sem,q0,q1]) rfl ⟨_,rfl,by rw [HE.out.2];exact ⟨_,rfl,((HO.out.below HB3.out).ch (((Ch.refl (fun j=>j=w.heap.size+1) w3).setCell (p:=⟨w.heap.size+1,0,none⟩) rfl _).setCell (p:=⟨w.heap.size+1,1,none⟩) rfl _) (fun j hj e=>by have:=(HO.out.lt j hj).1;omega)).base (by omega)⟩,HBF.out.setCell (Nat.le_succ _) _ |>.setCell (Nat.le_succ _) _⟩
    ·have HE:=Lib.hid (show decE (bs s)=4∧decV (bs s)=⟨0,[]⟩ by
      have:¬ decOk (bs s)=true:=by rw [HD.out];simp [hF]
      unfold decE decV
      rw [if_neg this,if_neg this]
      exact ⟨rfl,rfl⟩)
     have hF2:=str_ne (show ¬ mkS F=s from fun h=>hF (by rw [← h,bs_mkS]))
     clear HD hbad hF
     go_wp2_with fail
     have hx:=blk_set (blk_set HR3.out 0 (.int .i64 0)) 1 (.slice none 0 0)
     obtain ⟨q0,q1,-⟩:=tk_all hx
     exact bodyPost_ret (v:=.tuple #[.agg #[.int .i64 0,.slice none 0 0],.int .i64 (decE (bs s))]) (by rw [HE.out.1];simp [results,Tryz.results140,go_sem,q0,q1]) rfl ⟨_,rfl,by rw [HE.out.2];exact ⟨_,rfl,Own.nil⟩,HBF.out.setCell (Nat.le_succ _) _ |>.setCell (Nat.le_succ _) _⟩
   ·rw [show tkR ⟨nx,P⟩=.tuple #[.string (mkS []),.int .i64 1] by unfold tkR;rw [hbad];rfl]
    have HE:=Lib.hid (show decE (bs s)=4∧decV (bs s)=⟨0,[]⟩ by
      have:¬ decOk (bs s)=true:=by rw [HD.out,hbad];simp
      unfold decE decV
      rw [if_neg this,if_neg this]
      exact ⟨rfl,rfl⟩)
    clear HD hbad
    go_wp2_with fail
    have hx:=blk_set (blk_set HR3.out 0 (.int .i64 0)) 1 (.slice none 0 0)
    obtain ⟨q0,q1,-⟩:=tk_all hx
    exact bodyPost_ret (v:=.tuple #[.agg #[.int .i64 0,.slice none 0 0],.int .i64 (decE (bs s))]) (by rw [HE.out.1];simp [results,Tryz.results140,go_sem,q0,q1]) rfl ⟨_,rfl,by rw [HE.out.2];exact ⟨_,rfl,Own.nil⟩,HBF.out.setCell (Nat.le_succ _) _ |>.setCell (Nat.le_succ _) _⟩
end Go.Proofs.YtknioodagnjchaaGreatDoor
namespace Go.Proofs.YtknioodagnjchaaGreatDoor
open Go.RowKit Go.Maps
def strR (v:Value):Option (DataW Unit × List MemPlace):=match v with
 | .string s=>some (.lit (.string (bs s)),[])
 | _=>none
theorem strR_inv {v:Value} {l:List UInt8} {ps:List MemPlace} (h:strR v=some (.lit (.string l),ps)):v=.string (mkS l):=by
 unfold strR at h
 split at h
 ·simp only [Option.some.injEq,Prod.mk.injEq,DataW.lit.injEq,Lit.string.injEq] at h
  rw [← h.1,mkS_bs]
 ·cases h
def wfI (n:Int):Prop:=(Lit.int .i64 n).wf=true
theorem wf_page {n:Int} (h0:0≤n) (h1:n<4096):wfI n:=WalkArith.wf_i64 (by omega)
abbrev keyL (n:Int):Lit:=.int .i64 n
theorem int_law:Keyed Tryz.prog 3:=int_keyed Tryz.underlying3
theorem keyOf_n {n:Int} (h:wfI n):keyOf Tryz.prog 3 (.int .i64 n)=some (.int .i64 n):=keyOf_int_mk Tryz.underlying3 h
theorem zeroStr (w:World):(zeroValue 9).run Tryz.prog w=.ok (.string ⟨#[]⟩) w:=by kernel_rfl
theorem keyL_ok (n:Int):WideAt.IsKeyLit (keyL n):=trivial
theorem keyL_ne {m n:Int} (h:m≠n):keyL m≠keyL n:=fun e=>h (by cases e;rfl)
theorem nodup_len:∀ (N:Nat) (K:List Int),K.Nodup→(∀ n ∈ K,0≤n∧n<N)→K.length≤N
 | 0,K,_,h=>by
   cases K with
   | nil=>exact Nat.le_refl _
   | cons a K=>have:=h a List.mem_cons_self;omega
 | N+1,K,hn,h=>by
   have h1:=nodup_len N (K.filter fun n=>!(n == N)) (hn.sublist List.filter_sublist) (fun n hn=>by
    rw [List.mem_filter] at hn
    have:=h n hn.1
    have h2:n≠N:=by simpa using hn.2
    omega)
   have h2:K.length≤(K.filter fun n=>!(n == (N:Int))).length+1:=by
    have:=hn
    clear h1 h
    induction K with
    | nil=>simp
    | cons a K ih=>
      rw [List.nodup_cons] at this
      by_cases ha:a=N
      ·subst ha
       rw [List.filter_cons_of_neg (by simp),List.filter_eq_self.2 (fun x hx=>by
        have:x≠N:=fun e=>this.1 (e ▸ hx)
        simpa using this)]
       simp
      ·rw [List.filter_cons_of_pos (by simpa using ha)]
       simp only [List.length_cons]
       have:=ih this.2 this.2
       omega
   omega
def blankL:List UInt8:=List.replicate 232 0
structure BookOf (D:DataW Unit) (K:List Int) (B:Int→List UInt8):Prop where
 tidy:Tidy D
 nd:K.Nodup
 rng:∀ n ∈ K,0≤n∧n<(4096:Nat)
 yes:∀ n ∈ K,∀ z,D.atKey (keyL n) z=.lit (.string (B n))
 no:∀ n,n ∉ K→has D (keyL n)=false∧B n=blankL
 size:size D=K.length
def updB (B:Int→List UInt8) (n:Int) (l:List UInt8):Int→List UInt8:=fun m=>if m=n then l else B m
theorem BookOf.put {D:DataW Unit} {K:List Int} {B:Int→List UInt8} (h:BookOf D K B) {n:Int} (h0:0≤n) (h1:n<4096) (s:ByteArray):∃ K',BookOf (D.put (keyL n) (.lit (.string (bs s)))) K' (updB B n (bs s)):=by
 by_cases hn:n ∈ K
 ·refine ⟨K,h.tidy.put (keyL_ok n) _,h.nd,h.rng,fun m hm z=>?_,fun m hm=>?_,?_⟩
  ·unfold updB
   by_cases e:m=n
   ·subst e
    rw [if_pos rfl]
    exact atKey_put_same h.tidy.isMap (keyL_ok m) _ _
   ·rw [if_neg e,atKey_put_other (keyL_ne e)]
    exact h.yes m hm z
  ·have e:m≠n:=fun e=>hm (e ▸ hn)
   unfold updB
   rw [has_put_other (keyL_ne e),if_neg e]
   exact h.no m hm
  ·rw [size_put h.tidy,has_true_of_atKey (fun z=>h.yes n hn z),if_pos rfl,h.size]
 ·refine ⟨K ++ [n],h.tidy.put (keyL_ok n) _,?_,fun m hm=>?_,fun m hm z=>?_,fun m hm=>?_,?_⟩
  ·rw [List.nodup_append]
   exact ⟨h.nd,by simp,fun a ha b hb e=>by simp at hb;subst e hb;exact hn ha⟩
  ·rcases List.mem_append.1 hm with hm | hm
   ·exact h.rng m hm
   ·rw [List.mem_singleton.1 hm];exact ⟨h0,by omega⟩
  ·unfold updB
   rcases List.mem_append.1 hm with hm | hm
   ·have e:m≠n:=fun e=>hn (e ▸ hm)
    rw [if_neg e,atKey_put_other (keyL_ne e)]
    exact h.yes m hm z
   ·rw [List.mem_singleton.1 hm,if_pos rfl]
    exact atKey_put_same h.tidy.isMap (keyL_ok n) _ _
  ·rw [List.mem_append,not_or] at hm
   have e:m≠n:=by simpa using hm.2
   unfold updB
   rw [has_put_other (keyL_ne e),if_neg e]
   exact h.no m hm.1
  ·rw [size_put h.tidy,(h.no n hn).1,if_neg (by simp),h.size,List.length_append]
   rfl
def BookIs (w:World) (gm:Nat) (B:Int→List UInt8):Prop:=∃ D K,w.ownsMap Tryz.prog 3 strR gm K.length D∧BookOf D K B
section
variable {w w':World} {gm:Nat} {B:Int→List UInt8}
theorem own_tight {P:Program} {k:TypeId} {R:Value→Option (DataW Unit × List MemPlace)} {b n m:Nat} {D:DataW Unit} (h:w.ownsMap P k R b n D) (hm:Maps.size D=m):w.ownsMap P k R b m D:=by
 obtain ⟨es,clock,hb,F,hs,rfl⟩:=h
 exact ⟨es,clock,hb,F,by rw [← hm];simp [Maps.size,length_sorted],rfl⟩
theorem BookIs.made (w:World):BookIs (w.alloc (.map #[] 0)) w.heap.size (fun _=>blankL):=
 ⟨_,[],World.ownsMap_made w _ _ _,tidy_empty,List.Pairwise.nil,fun _ h=>absurd h List.not_mem_nil,fun _ h=>absurd h List.not_mem_nil,fun _ _=>⟨rfl,rfl⟩,rfl⟩
theorem BookIs.lt (h:BookIs w gm B):gm<w.heap.size:=let ⟨_,_,h,_⟩:=h;h.lt
theorem BookIs.block (h:BookIs w gm B) (hb:w'.heap[gm]?=w.heap[gm]?):BookIs w' gm B:=by
 obtain ⟨D,K,⟨es,clock,hh,F,hs,hD⟩,hm⟩:=h
 exact ⟨D,K,⟨es,clock,hb.trans hh,F,hs,hD⟩,hm⟩
theorem BookIs.ch {S:Nat→Prop} (h:BookIs w gm B) (hc:Ch S w w') (hn:¬ S gm):BookIs w' gm B:=h.block (hc.block gm h.lt hn)
theorem BookIs.look (h:BookIs w gm B) {n:Int} (hw:wfI n):∃ (v:ByteArray) (b:Bool),(Instr.lookup 91 (.map (some gm)) (.int .i64 n) true).run Tryz.prog w=.ok (.tuple #[.string v,.bool b]) w∧(b=true→v=mkS (B n))∧(b=false→B n=blankL):=by
 obtain ⟨D,K,hown,hm⟩:=h
 obtain ⟨v,ps,hrun,hv⟩:=hown.look_ok int_law Tryz.underlying91 (zeroStr w) (zd:=.lit (.string [])) (zp:=[]) rfl (keyOf_n hw)
 by_cases hn:n ∈ K
 ·rw [hm.yes n hn] at hv
  have:=strR_inv hv
  subst this
  exact ⟨_,_,hrun,fun _=>rfl,fun h=>by rw [has_true_of_atKey (fun z=>hm.yes n hn z)] at h;cases h⟩
 ·rw [atKey_of_not_has (hm.no n hn).1] at hv
  have:=strR_inv hv
  subst this
  refine ⟨_,_,hrun,?_⟩
  rw [(hm.no n hn).1]
  exact ⟨fun h=>(by cases h),fun _=>(hm.no n hn).2⟩
theorem BookIs.put (h:BookIs w gm B) {n:Int} (h0:0≤n) (h1:n<4096) (s:ByteArray):
  ∃ w',(Instr.mapUpdate 91 (.map (some gm)) (.int .i64 n) (.string s)).run Tryz.prog w=.ok () w'∧BookIs w' gm (updB B n (bs s))∧w.grownBy w' (some gm):=by
 obtain ⟨D,K,hown,hm⟩:=h
 have hl:=nodup_len 4096 K hm.nd hm.rng
 obtain ⟨w',hrun,hown',hg⟩:=hown.update int_law Tryz.underlying91 (by simp [maxLen];omega) (keyOf_n (wf_page h0 h1)) (val:=.string s) (d:=.lit (.string (bs s))) (ps:=[]) rfl
 obtain ⟨K',hm'⟩:=hm.put h0 h1 s
 exact ⟨w',hrun,⟨_,K',own_tight hown' hm'.size,hm'⟩,hg⟩
end
theorem blank_any (w:World):Calls Tryz.prog 52 #[] w fun e w'=>e=.returned (.string (mkS blankL))∧Below w.heap.size w w':=by
 go_enter Tryz.func52,Tryz.ntmps52
 go_wp2_with fail
 refine (repeat0_any 232 w (by omega)).mono ?_
 rintro e w1 ⟨rfl,hb⟩
 have HB:=Lib.hid hb
 clear hb
 go_wp2_with fail
 go_ret
 exact ⟨rfl,HB.out⟩
theorem bookGet_any (n:Int) (gm:Nat) (B:Int→List UInt8) (w:World) (h:BookIs w gm B) (hw:wfI n):
  Calls Tryz.prog 175 #[.map (some gm),.int .i64 n] w fun e w'=>e=.returned (.tuple #[.string (mkS (B n)),.int .i64 0])∧Below w.heap.size w w':=by
 obtain ⟨v,b,hrun,hy,hn⟩:=h.look hw
 go_enter Tryz.func175,Tryz.ntmps175
 cases b
 ·have HN:=Lib.hid (hn rfl)
  clear hy hn
  go_wp2_with fail
  refine (blank_any w).mono ?_
  rintro e w1 ⟨rfl,hb⟩
  have HB:=Lib.hid hb
  clear hb
  go_wp2_with fail
  go_ret2
  rw [HN.out]
  exact ⟨rfl,HB.out⟩
 ·have HY:=Lib.hid (hy rfl)
  clear hy hn
  go_wp2_with fail
  go_ret2
  rw [← HY.out]
  exact ⟨rfl,Below.refl _ _⟩
theorem bookPut_any (n:Int) (s:ByteArray) (gm:Nat) (B:Int→List UInt8) (w:World) (h:BookIs w gm B) (h0:0≤n) (h1:n<4096):
  Calls Tryz.prog 56 #[.map (some gm),.int .i64 n,.string s] w fun e w'=>e=.returned (.int .i64 0)∧BookIs w' gm (updB B n (bs s))∧Ch (fun k=>k=gm) w w':=by
 obtain ⟨w1,hrun,hb,hg⟩:=h.put h0 h1 s
 have HB:=Lib.hid hb
 have HG:=Lib.hid hg
 clear hb hg
 go_enter Tryz.func56,Tryz.ntmps56
 go_wp2_with fail
 go_ret
 exact ⟨rfl,HB.out,Ch.of_grown HG.out (fun k e=>by cases e;rfl)⟩
end Go.Proofs.YtknioodagnjchaaGreatDoor
namespace Go.Proofs.YtknioodagnjchaaGreatDoor
open Go.RowKit Go.Maps
def truE (l:List UInt8):Int:=if decOk l then 0 else 30
theorem trunk_any (n:Int) (gm:Nat) (B:Int→List UInt8) (w:World) (h:BookIs w gm B) (hw:wfI n) (hl:(B n).length=232):
  Calls Tryz.prog 102 #[.iface 91 (.map (some gm)),.int .i64 n] w fun e w'=>∃ v,e=.returned (.tuple #[v,.int .i64 (truE (B n))])∧TkIs w.heap.size w' v (decV (B n))∧Below w.heap.size w w':=by
 have HH:=Lib.hid h
 clear h
 go_enter Tryz.func102,Tryz.ntmps102
 go_wp2_with fail
 refine (bookGet_any n gm B _ (HH.out.ch (Ch.alloc (Ch.refl (fun _=>False) w) _) id) hw).mono ?_
 rintro e w1 ⟨rfl,hb⟩
 have HB1:=Lib.hid (((Below.refl _ w).alloc (Nat.le_refl _) (.cells #[.int .i64 0,.slice none 0 0] 167)).trans (hb.mono (by simp)))
 have HR1:=Lib.hid (blk_keep (blk_new (w0:=w) (g:=w.heap.size) (o:=.cells #[.int .i64 0,.slice none 0 0] 167) rfl) hb)
 clear hb
 go_wp2_with fail
 refine (spareDec_any (mkS (B n)) w1 (by rw [mkS_size];exact hl)).mono ?_
 rw [bs_mkS]
 rintro e w2 ⟨v,rfl,⟨lv,rfl,ho⟩,hb⟩
 have HB2:=Lib.hid (HB1.out.trans (hb.mono HB1.out.size))
 have HR2:=Lib.hid (blk_keep HR1.out hb)
 have hw1:=HB1.out.size
 have HO:=Lib.hid ho
 obtain ⟨A,c,rfl⟩:=Sl.len' (ho.sl iC_len)
 clear hb ho
 have hgl:=blk_lt HR2.out
 have hgl1:=blk_lt HR1.out
 have HG:=Lib.hid (blk_alloc HR2.out (.cells #[.int .i64 (decV (B n)).next,.slice A (decV (B n)).list.length c] 167))
 obtain ⟨r0,r1,r2,r3,r4⟩:=tk_all HG.out
 have HT:=Lib.hid (blk_new (w0:=w2) (g:=w2.heap.size) (o:=.cells #[.int .i64 (decV (B n)).next,.slice A (decV (B n)).list.length c] 167) rfl)
 obtain ⟨t0,t1,t2,t3,t4⟩:=tk_all HT.out
 have HOA:=Lib.hid (HO.out.alloc (.cells #[.int .i64 (decV (B n)).next,.slice A (decV (B n)).list.length c] 167))
 have HB3:=Lib.hid (HB2.out.alloc HB2.out.size (.cells #[.int .i64 (decV (B n)).next,.slice A (decV (B n)).list.length c] 167))
 go_upto_region 5 with fail
 generalize w2.alloc (.cells #[.int .i64 (decV (B n)).next,.slice A (decV (B n)).list.length c] 167)=w3 at *
 generalize w2.heap.size=g2 at *
 cases hd:decOk (B n)
 ·have HE:=Lib.hid (show decE (B n)=4∧truE (B n)=30∧decV (B n)=⟨0,[]⟩ by simp [decE,truE,decV,hd])
  rw [HE.out.1]
  go_wp2_with fail
  have hx:=blk_set (blk_set HG.out 0 (.int .i64 0)) 1 (.slice none 0 0)
  obtain ⟨q0,q1,-⟩:=tk_all hx
  exact bodyPost_ret (v:=.tuple #[.agg #[.int .i64 0,.slice none 0 0],.int .i64 (truE (B n))]) (by rw [HE.out.2.1];simp [results,Tryz.results102,go_sem,q0,q1]) rfl ⟨_,rfl,by rw [HE.out.2.2];exact ⟨_,rfl,Own.nil⟩,HB3.out.setCell (Nat.le_refl _) _ |>.setCell (Nat.le_refl _) _⟩
 ·have HE:=Lib.hid (show decE (B n)=0∧truE (B n)=0 by simp [decE,truE,hd])
  rw [HE.out.1]
  go_wp2_with fail
  have hx:=blk_set (blk_set HG.out 0 (.int .i64 (decV (B n)).next)) 1 (.slice A (decV (B n)).list.length c)
  obtain ⟨q0,q1,-⟩:=tk_all hx
  exact bodyPost_ret (v:=.tuple #[.agg #[.int .i64 (decV (B n)).next,.slice A (decV (B n)).list.length c],.int .i64 (truE (B n))]) (by rw [HE.out.2];simp [results,Tryz.results102,go_sem,q0,q1]) rfl
   ⟨_,rfl,⟨_,rfl,(HOA.out.ch (((Ch.refl (fun j=>j=w.heap.size) _).setCell (p:=⟨w.heap.size,0,none⟩) rfl _).setCell (p:=⟨w.heap.size,1,none⟩) rfl _) (fun j hj e=>by have:=(HO.out.lt j hj).1;omega)).base hw1⟩,HB3.out.setCell (Nat.le_refl _) _ |>.setCell (Nat.le_refl _) _⟩
def layE (t:Tk):Int:=if tkBad t then 30 else 0
def layB (t:Tk) (B:Int→List UInt8) (n:Int):Int→List UInt8:=if tkBad t then B else updB B n (fullL (tkB t))
theorem lay_any (n:Int) (t:Tk) (v:Value) (gm:Nat) (B:Int→List UInt8) (w:World) (h:BookIs w gm B) (h0:0≤n) (h1:n<4096) (hs:Sl iC 1 w v t.list) (hl:t.list.length≤1000000):
  Calls Tryz.prog 103 #[.iface 91 (.map (some gm)),.int .i64 n,.agg #[.int .i64 t.next,v]] w fun e w'=>e=.returned (.int .i64 (layE t))∧BookIs w' gm (layB t B n)∧Ch (fun k=>k=gm) w w':=by
 have HH:=Lib.hid h
 have HS:=Lib.hid hs
 obtain ⟨A,c,rfl⟩:=Sl.len' hs
 have hgm:=h.lt
 clear h hs
 go_enter Tryz.func103,Tryz.ntmps103
 go_wp2_with fail
 have HA:=Lib.hid ((Below.refl _ w).alloc (Nat.le_refl _) (.cells #[.int .i64 t.next,.slice A t.list.length c] 167))
 refine (spareEnc_any t _ _ (HS.out.keep HA.out) hl).mono ?_
 rintro e w1 ⟨rfl,hb⟩
 have HB1:=Lib.hid (HA.out.trans (hb.mono HA.out.size))
 clear hb
 cases hbad:tkBad t
 ·have HE:=Lib.hid (show layE t=0∧layB t B n=updB B n (fullL (tkB t)) by simp [layE,layB,hbad])
  rw [show tkR t=.tuple #[.string (mkS (fullL (tkB t))),.int .i64 0] by unfold tkR;rw [hbad];rfl]
  generalize fullL (tkB t)=F at *
  go_wp2_with fail
  refine (bookPut_any n (mkS F) gm B w1 (HH.out.ch (Ch.of_below (S:=fun _=>False) HB1.out) id) h0 h1).mono ?_
  rintro e w2 ⟨rfl,hbk,hch⟩
  have HBK:=Lib.hid hbk
  have HCH:=Lib.hid ((Ch.of_below (S:=fun k=>k=gm) HB1.out).trans hch)
  clear hbk hch
  go_wp2_with fail
  go_ret
  exact ⟨by rw [HE.out.1];rfl,by rw [HE.out.2];exact HBK.out,HCH.out⟩
 ·have HE:=Lib.hid (show layE t=30∧layB t B n=B by simp [layE,layB,hbad])
  rw [show tkR t=.tuple #[.string (mkS []),.int .i64 1] by unfold tkR;rw [hbad];rfl]
  go_wp2_with fail
  go_ret
  exact ⟨by rw [HE.out.1];rfl,by rw [HE.out.2];exact HH.out.ch (Ch.of_below (S:=fun _=>False) HB1.out) id,Ch.of_below HB1.out⟩
end Go.Proofs.YtknioodagnjchaaGreatDoor
namespace Go.Proofs.YtknioodagnjchaaGreatDoor
open Go.RowKit Go.Maps
structure Hd where
 mode:Int
 pages:Int
 trunk:Int
 spare:Int
 root:Int
 change:Int
def Hd.zero:Hd:=⟨0,0,0,0,0,0⟩
def Hd.cells (h:Hd):Array Value:=#[.int .i64 h.mode,.int .i64 h.pages,.int .i64 h.trunk,.int .i64 h.spare,.int .i64 h.root,.int .u64 h.change]
def Hd.val (h:Hd):Value:=.agg h.cells
def hdB (h:Hd):Obj:=.cells #[.int .i64 h.mode,.int .i64 h.pages,.int .i64 h.trunk,.int .i64 h.spare,.int .i64 h.root,.int .u64 h.change] 51 (0,0)
theorem hd_cells {w:World} {g:Nat} {h:Hd} (hh:w.heap[g]?=some (hdB h)):w.cell? ⟨g,0,none⟩=some (.int .i64 h.mode)∧w.cell? ⟨g,1,none⟩=some (.int .i64 h.pages)∧w.cell? ⟨g,2,none⟩=some (.int .i64 h.trunk)∧
  w.cell? ⟨g,3,none⟩=some (.int .i64 h.spare)∧w.cell? ⟨g,4,none⟩=some (.int .i64 h.root)∧w.cell? ⟨g,5,none⟩=some (.int .u64 h.change)∧g<w.heap.size:=
 ⟨blk_cell hh 0,blk_cell hh 1,blk_cell hh 2,blk_cell hh 3,blk_cell hh 4,blk_cell hh 5,blk_lt hh⟩
theorem hd_frozen {w:World} {g:Nat} {h:Hd} (hh:w.heap[g]?=some (hdB h)):w.frozen? ⟨g,0,none⟩=false∧w.frozen? ⟨g,1,none⟩=false∧w.frozen? ⟨g,2,none⟩=false∧w.frozen? ⟨g,3,none⟩=false∧w.frozen? ⟨g,4,none⟩=false∧w.frozen? ⟨g,5,none⟩=false:=
 ⟨blk_frozen hh 0,blk_frozen hh 1,blk_frozen hh 2,blk_frozen hh 3,blk_frozen hh 4,blk_frozen hh 5⟩
def hdS (w:World) (g:Nat) (h:Hd):World:=(((((w.setCell ⟨g,0,none⟩ (.int .i64 h.mode)).setCell ⟨g,1,none⟩ (.int .i64 h.pages)).setCell ⟨g,2,none⟩ (.int .i64 h.trunk)).setCell ⟨g,3,none⟩ (.int .i64 h.spare)).setCell ⟨g,4,none⟩ (.int .i64 h.root)).setCell ⟨g,5,none⟩ (.int .u64 h.change)
theorem hdS_heap {w:World} {g:Nat} {h0:Hd} (hh:w.heap[g]?=some (hdB h0)) (h:Hd):(hdS w g h).heap[g]?=some (hdB h):=blk_set (blk_set (blk_set (blk_set (blk_set (blk_set hh 0 _) 1 _) 2 _) 3 _) 4 _) 5 _
theorem hdS_ch {S:Nat→Prop} {a w:World} {g:Nat} (hc:Ch S a w) (hg:S g) (h:Hd):Ch S a (hdS w g h):=
 (((((hc.setCell (p:=⟨g,0,none⟩) hg _).setCell (p:=⟨g,1,none⟩) hg _).setCell (p:=⟨g,2,none⟩) hg _).setCell (p:=⟨g,3,none⟩) hg _).setCell (p:=⟨g,4,none⟩) hg _).setCell (p:=⟨g,5,none⟩) hg _
theorem Own.cap {α:Type} {f:α→List Value} {size:Nat} {e:TypeId} {base:Nat} {w:World} {A:Option Addr} {n c:Nat} {xs:List α} (h:Own f size e base w (.slice A n c) xs):n≤c:=by
 rcases h.2 with ⟨hv,h0⟩ | ⟨g,cap,cur,hv,_,_,hn,_⟩
 ·injection hv with _ h1 h2;omega
 ·injection hv with _ h1 h2;omega
theorem Sl.take {α:Type} {f:α→List Value} {size:Nat} {w:World} {a:Addr} {n c:Nat} {xs:List α} (h:Sl f size w (.slice (some a) n c) xs) (k:Nat) (hk:k≤xs.length):Sl f size w (.slice (some a) k c) (xs.take k):=by
 obtain ⟨A,c',he,hx⟩:=h
 injection he with h1 h2 h3
 subst h1 h3
 refine ⟨some a,c,by rw [List.length_take,Nat.min_eq_left hk],fun hne=>?_⟩
 obtain ⟨b,off,e1,hlt,hcs⟩:=hx (fun e=>hne (by rw [e];simp))
 refine ⟨b,off,e1,hlt,fun i x hx j u hu=>hcs i x ?_ j u hu⟩
 rw [List.getElem?_take] at hx
 split at hx
 ·exact hx
 ·cases hx
theorem tkBad_take {t:Tk} (h:tkBad t=false) (k:Nat):tkBad ⟨t.next,t.list.take k⟩=false:=by
 unfold tkBad at h ⊢
 rw [Bool.or_eq_false_iff,Bool.or_eq_false_iff] at h ⊢
 obtain ⟨⟨h1,h2⟩,h3⟩:=h
 refine ⟨⟨h1,?_⟩,?_⟩
 ·simp at h2 ⊢;omega
 ·rw [List.any_eq_false] at h3 ⊢
  exact fun x hx=>h3 x (List.mem_of_mem_take hx)
theorem decOk_bad {l:List UInt8} (h:decOk l=true):tkBad (decP l)=false:=by
 unfold decOk at h
 simp at h
 exact h.1
structure Taken where
 n:Int
 h:Hd
 e:Int
 B:Int→List UInt8
def takeBad (B:Int→List UInt8) (e:Int):Taken:=⟨0,Hd.zero,e,B⟩
def tkAbove (t:Tk) (pages:Int):Bool:=decide (pages≤t.next) || (decide (0<t.list.length) && decide (pages≤t.list.getD (t.list.length - 1) 0))
def takeR (h:Hd) (B:Int→List UInt8):Taken:=
 if h.spare=0 then if 4096≤h.pages then takeBad B 22 else ⟨h.pages,{ h with pages:=h.pages+1 },0,B⟩
 else if decOk (B h.trunk)=false then takeBad B 30
 else
  let t:=decP (B h.trunk)
  if tkAbove t h.pages then takeBad B 30
  else if 0<t.list.length then ⟨t.list.getD (t.list.length - 1) 0,{ h with spare:=h.spare - 1 },0,updB B h.trunk (fullL (tkB ⟨t.next,t.list.take (t.list.length - 1)⟩))⟩
  else if ((t.next == 0) != (h.spare == 1)) then takeBad B 30
  else ⟨h.trunk,{ h with trunk:=t.next,spare:=h.spare - 1 },0,B⟩
structure Hd.Ok (h:Hd):Prop where
 p1:1≤h.pages
 p2:h.pages≤4096
 t0:0≤h.trunk
 t1:h.trunk<4096
 s0:0≤h.spare
 s1:h.spare≤4096
theorem blk_far {w:World} {g:Nat} {o:Obj} (h:w.heap[g]?=some o) {a:Addr} (hn:a.block≠g) (u:Value):(w.setCell a u).heap[g]?=some o:=(Below.heap_setCell _ _ _ _ (fun e=>hn e.symm)).trans h
theorem take_fin {w w1:World} {gm rx:Nat} {B:Int→List UInt8} {h0:Hd} (hw:Below w.heap.size w w1) (hb:BookIs w1 gm B) (hr:w1.heap[rx]?=some (hdB h0)) (hrx:w.heap.size≤rx) (hg:gm<w.heap.size) (h:Hd):
  (hdS w1 rx h).heap[rx]?=some (hdB h)∧BookIs (hdS w1 rx h) gm B∧Ch (fun k=>k=gm) w (hdS w1 rx h):=
 ⟨hdS_heap hr h,hb.ch (hdS_ch (Ch.refl (fun j=>j=rx) w1) rfl h) (by omega),(Ch.of_below hw).then (hdS_ch (Ch.refl (fun j=>j=rx) w1) rfl h) (fun i e=>.inr (by omega))⟩
theorem take_fin2 {w w1:World} {gm rx:Nat} {B:Int→List UInt8} {h0:Hd} (hw:Ch (fun k=>k=gm) w w1) (hb:BookIs w1 gm B) (hr:w1.heap[rx]?=some (hdB h0)) (hrx:w.heap.size≤rx) (hg:gm<w.heap.size) (h:Hd):
  (hdS w1 rx h).heap[rx]?=some (hdB h)∧BookIs (hdS w1 rx h) gm B∧Ch (fun k=>k=gm) w (hdS w1 rx h):=
 ⟨hdS_heap hr h,hb.ch (hdS_ch (Ch.refl (fun j=>j=rx) w1) rfl h) (by omega),hw.then (hdS_ch (Ch.refl (fun j=>j=rx) w1) rfl h) (fun i e=>.inr (by omega))⟩
theorem take_any (h:Hd) (gm:Nat) (B:Int→List UInt8) (w:World) (hb:BookIs w gm B) (hl:∀ n,(B n).length=232) (hk:h.Ok):
  Calls Tryz.prog 51 #[.agg #[.int .i64 h.mode,.int .i64 h.pages,.int .i64 h.trunk,.int .i64 h.spare,.int .i64 h.root,.int .u64 h.change],.iface 91 (.map (some gm))] w
   fun e w'=>e=.returned (.tuple #[.int .i64 (takeR h B).n,(takeR h B).h.val,.int .i64 (takeR h B).e])∧BookIs w' gm (takeR h B).B∧Ch (fun k=>k=gm) w w':=by
 have HH:=Lib.hid hb
 have hgm:=hb.lt
 clear hb
 obtain ⟨hm,hp,ht,hs,hr,hc⟩:=h
 obtain ⟨k1,k2,k3,k4,k5,k6⟩:=hk
 simp only at k1 k2 k3 k4 k5 k6
 go_enter Tryz.func51,Tryz.ntmps51
 go_upto_region 1 with fail
 have HX1:=Lib.hid (blk_alloc (blk_new (w0:=w) (g:=w.heap.size) (o:=hdB ⟨hm,hp,ht,hs,hr,hc⟩) rfl) (hdB Hd.zero))
 have HR1:=Lib.hid (blk_new (w0:=w.alloc (hdB ⟨hm,hp,ht,hs,hr,hc⟩)) (g:=w.heap.size+1) (o:=hdB Hd.zero) (by simp))
 have HW1:=Lib.hid (((Below.refl _ w).alloc (Nat.le_refl _) (hdB ⟨hm,hp,ht,hs,hr,hc⟩)).alloc (by simp) (hdB Hd.zero))
 have HH1:=Lib.hid (HH.out.ch (Ch.of_below (S:=fun _=>False) HW1.out) id)
 generalize hw1:(w.alloc (.cells #[.int .i64 hm,.int .i64 hp,.int .i64 ht,.int .i64 hs,.int .i64 hr,.int .u64 hc] 51)).alloc (.cells #[.int .i64 0,.int .i64 0,.int .i64 0,.int .i64 0,.int .i64 0,.int .u64 0] 51)=w1 at *
 have hw2:(w.alloc (hdB ⟨hm,hp,ht,hs,hr,hc⟩)).alloc (hdB Hd.zero)=w1:=hw1
 rw [hw2] at HX1 HR1 HW1 HH1
 clear hw1 hw2
 obtain ⟨a0,a1,a2,a3,a4,a5,a6⟩:=hd_cells HX1.out
 obtain ⟨b0,b1,b2,b3,b4,b5⟩:=hd_frozen HX1.out
 obtain ⟨c0,c1,c2,c3,c4,c5,c6⟩:=hd_cells HR1.out
 obtain ⟨d0,d1,d2,d3,d4,d5⟩:=hd_frozen HR1.out
 simp only [Hd.zero] at a0 a1 a2 a3 a4 a5 c0 c1 c2 c3 c4 c5
 by_cases h0:hs=0
 ·subst h0
  by_cases hp4:4096≤hp
  ·have HT:=Lib.hid (show takeR ⟨hm,hp,ht,0,hr,hc⟩ B=takeBad B 22 by simp [takeR,hp4])
   go_wp2_with fail
   have HF:=Lib.hid (take_fin HW1.out HH1.out HR1.out (Nat.le_succ _) (by omega) ⟨0,0,0,0,0,0⟩)
   obtain ⟨q0,q1,q2,q3,q4,q5,q6⟩:=hd_cells HF.out.1
   generalize hwf:hdS (w1) (w.heap.size+1) ⟨0,0,0,0,0,0⟩=wf at *
   have hwf2:((((((w1).setCell ⟨w.heap.size+1,0,none⟩ (.int .i64 (0))).setCell ⟨w.heap.size+1,1,none⟩ (.int .i64 (0))).setCell ⟨w.heap.size+1,2,none⟩ (.int .i64 (0))).setCell ⟨w.heap.size+1,3,none⟩ (.int .i64 (0))).setCell ⟨w.heap.size+1,4,none⟩ (.int .i64 (0))).setCell ⟨w.heap.size+1,5,none⟩ (.int .u64 (0))=wf:=hwf
   rw [hwf2]
   exact bodyPost_ret (v:=.tuple #[.int .i64 (0),.agg #[.int .i64 (0),.int .i64 (0),.int .i64 (0),.int .i64 (0),.int .i64 (0),.int .u64 (0)],.int .i64 (22)]) (by simp [results,Tryz.results51,go_sem,q0,q1,q2,q3,q4,q5]) rfl ⟨by rw [HT.out];rfl,by rw [HT.out];exact HF.out.2.1.block rfl,⟨HF.out.2.2.os,HF.out.2.2.tape,HF.out.2.2.output,HF.out.2.2.size,HF.out.2.2.block⟩⟩
  ·have HT:=Lib.hid (show takeR ⟨hm,hp,ht,0,hr,hc⟩ B=⟨hp,⟨hm,hp+1,ht,0,hr,hc⟩,0,B⟩ by simp [takeR,hp4])
   have hp5:hp<4096:=by omega
   go_wp2_with fail
   go_region
   all_goals
    go_wp2_with fail
    have HF:=Lib.hid (take_fin (HW1.out.setCell (p:=⟨w.heap.size,1,none⟩) (Nat.le_refl _) (.int .i64 (hp+1))) (HH1.out.ch ((Ch.refl (fun j=>j=w.heap.size) w1).setCell (p:=⟨w.heap.size,1,none⟩) rfl (.int .i64 (hp+1))) (by omega)) (blk_far HR1.out (a:=⟨w.heap.size,1,none⟩) (by simp) (.int .i64 (hp+1))) (Nat.le_succ _) (by omega) ⟨hm,hp+1,ht,0,hr,hc⟩)
    obtain ⟨q0,q1,q2,q3,q4,q5,q6⟩:=hd_cells HF.out.1
    generalize hwf:hdS (w1.setCell ⟨w.heap.size,1,none⟩ (.int .i64 (hp+1))) (w.heap.size+1) ⟨hm,hp+1,ht,0,hr,hc⟩=wf at *
    have hwf2:((((((w1.setCell ⟨w.heap.size,1,none⟩ (.int .i64 (hp+1))).setCell ⟨w.heap.size+1,0,none⟩ (.int .i64 (hm))).setCell ⟨w.heap.size+1,1,none⟩ (.int .i64 (hp+1))).setCell ⟨w.heap.size+1,2,none⟩ (.int .i64 (ht))).setCell ⟨w.heap.size+1,3,none⟩ (.int .i64 (0))).setCell ⟨w.heap.size+1,4,none⟩ (.int .i64 (hr))).setCell ⟨w.heap.size+1,5,none⟩ (.int .u64 (hc))=wf:=hwf
    rw [hwf2]
    exact bodyPost_ret (v:=.tuple #[.int .i64 (hp),.agg #[.int .i64 (hm),.int .i64 (hp+1),.int .i64 (ht),.int .i64 (0),.int .i64 (hr),.int .u64 (hc)],.int .i64 (0)]) (by simp [results,Tryz.results51,go_sem,q0,q1,q2,q3,q4,q5]) rfl ⟨by rw [HT.out];rfl,by rw [HT.out];exact HF.out.2.1.block rfl,⟨HF.out.2.2.os,HF.out.2.2.tape,HF.out.2.2.output,HF.out.2.2.size,HF.out.2.2.block⟩⟩
 ·have h01:(hs == 0)=false:=by simpa using h0
  have hs2:¬ hs=0:=h0
  go_wp2_with fail
  refine (trunk_any ht gm B w1 HH1.out (wf_page k3 k4) (hl ht)).mono ?_
  obtain ⟨⟨tn,tl⟩,hT⟩:∃ T,decV (B ht)=T:=⟨_,rfl⟩
  obtain ⟨te,hte⟩:∃ te,truE (B ht)=te:=⟨_,rfl⟩
  rw [hT,hte]
  have HTT:=Lib.hid hT
  have HTE:=Lib.hid hte
  clear hT hte
  rintro e w2 ⟨v,rfl,⟨lv,rfl,ho⟩,hb⟩
  simp only at ho
  have hgb:w1.heap.size≤w2.heap.size:=hb.size
  obtain ⟨A,c,rfl⟩:=Sl.len' (ho.sl iC_len)
  have HX3:=Lib.hid (blk_alloc (blk_keep HX1.out hb) (.cells #[.int .i64 tn,.slice A tl.length c] 167))
  have HR3:=Lib.hid (blk_alloc (blk_keep HR1.out hb) (.cells #[.int .i64 tn,.slice A tl.length c] 167))
  have HW2:=HW1.out.trans (hb.mono HW1.out.size)
  have HW3:=Lib.hid (HW2.alloc HW2.size (.cells #[.int .i64 tn,.slice A tl.length c] 167))
  have HH3:=Lib.hid ((HH1.out.ch (Ch.of_below (S:=fun _=>False) hb) id).ch (Ch.alloc (Ch.refl (fun _=>False) w2) (.cells #[.int .i64 tn,.slice A tl.length c] 167)) id)
  have HO3:=Lib.hid (ho.alloc (.cells #[.int .i64 tn,.slice A tl.length c] 167))
  have HG3:=Lib.hid (blk_new (w0:=w2) (g:=w2.heap.size) (o:=.cells #[.int .i64 tn,.slice A tl.length c] 167) rfl)
  have hg2:w.heap.size+1<w2.heap.size:=by have:=blk_lt HR1.out;omega
  clear hb ho HW2 a0 a1 a2 a3 a4 a5 b0 b1 b2 b3 b4 b5 c0 c1 c2 c3 c4 c5 d0 d1 d2 d3 d4 d5
  go_upto_region 7 with fail
  generalize w2.alloc (.cells #[.int .i64 tn,.slice A tl.length c] 167)=w3 at *
  generalize w2.heap.size=g2 at *
  obtain ⟨a0,a1,a2,a3,a4,a5,a7⟩:=hd_cells HX3.out
  obtain ⟨b0,b1,b2,b3,b4,b5⟩:=hd_frozen HX3.out
  obtain ⟨c0,c1,c2,c3,c4,c5,c7⟩:=hd_cells HR3.out
  obtain ⟨d0,d1,d2,d3,d4,d5⟩:=hd_frozen HR3.out
  obtain ⟨t0,t1,t2,t3,t4⟩:=tk_all HG3.out
  simp only [Hd.zero] at a0 a1 a2 a3 a4 a5 c0 c1 c2 c3 c4 c5
  cases hd:decOk (B ht)
  ·have HT:=Lib.hid (show takeR ⟨hm,hp,ht,hs,hr,hc⟩ B=takeBad B 30 by simp [takeR,h0,hd])
   obtain rfl:te=30:=by rw [← HTE.out];simp [truE,hd]
   clear HTE
   go_wp2_with fail
   have HF:=Lib.hid (take_fin HW3.out HH3.out HR3.out (Nat.le_succ _) (by omega) ⟨0,0,0,0,0,0⟩)
   obtain ⟨q0,q1,q2,q3,q4,q5,q6⟩:=hd_cells HF.out.1
   generalize hwf:hdS (w3) (w.heap.size+1) ⟨0,0,0,0,0,0⟩=wf at *
   have hwf2:((((((w3).setCell ⟨w.heap.size+1,0,none⟩ (.int .i64 (0))).setCell ⟨w.heap.size+1,1,none⟩ (.int .i64 (0))).setCell ⟨w.heap.size+1,2,none⟩ (.int .i64 (0))).setCell ⟨w.heap.size+1,3,none⟩ (.int .i64 (0))).setCell ⟨w.heap.size+1,4,none⟩ (.int .i64 (0))).setCell ⟨w.heap.size+1,5,none⟩ (.int .u64 (0))=wf:=hwf
   rw [hwf2]
   exact bodyPost_ret (v:=.tuple #[.int .i64 (0),.agg #[.int .i64 (0),.int .i64 (0),.int .i64 (0),.int .i64 (0),.int .i64 (0),.int .u64 (0)],.int .i64 (30)]) (by simp [results,Tryz.results51,go_sem,q0,q1,q2,q3,q4,q5]) rfl ⟨by rw [HT.out];rfl,by rw [HT.out];exact HF.out.2.1.block rfl,⟨HF.out.2.2.os,HF.out.2.2.tape,HF.out.2.2.output,HF.out.2.2.size,HF.out.2.2.block⟩⟩
  ·obtain rfl:te=0:=by rw [← HTE.out];simp [truE,hd]
   have HDP:=Lib.hid (show decP (B ht)=⟨tn,tl⟩ by rw [← HTT.out];simp [decV,hd])
   clear HTE HTT
   have HTR:=Lib.hid (show takeR ⟨hm,hp,ht,hs,hr,hc⟩ B=if tkAbove ⟨tn,tl⟩ hp then takeBad B 30 else if 0<tl.length then ⟨tl.getD (tl.length - 1) 0,⟨hm,hp,ht,hs - 1,hr,hc⟩,0,updB B ht (fullL (tkB ⟨tn,tl.take (tl.length - 1)⟩))⟩ else if ((tn == 0) != (hs == 1)) then takeBad B 30 else ⟨ht,⟨hm,hp,tn,hs - 1,hr,hc⟩,0,B⟩ by simp only [takeR,h0,hd,HDP.out];rfl)
   have HBD:=Lib.hid (show tkBad ⟨tn,tl⟩=false by have:=decOk_bad hd;rw [HDP.out] at this;exact this)
   by_cases h1:hp≤tn
   ·have HT:=Lib.hid (show takeR ⟨hm,hp,ht,hs,hr,hc⟩ B=takeBad B 30 by rw [HTR.out,if_pos (by simp [tkAbove,h1])])
    have h1b:decide (hp≤tn)=true:=decide_eq_true h1
    go_upto_region 11 with fail
    go_region
    all_goals
     go_wp2_with fail
     have HF:=Lib.hid (take_fin HW3.out HH3.out HR3.out (Nat.le_succ _) (by omega) ⟨0,0,0,0,0,0⟩)
     obtain ⟨q0,q1,q2,q3,q4,q5,q6⟩:=hd_cells HF.out.1
     generalize hwf:hdS (w3) (w.heap.size+1) ⟨0,0,0,0,0,0⟩=wf at *
     have hwf2:((((((w3).setCell ⟨w.heap.size+1,0,none⟩ (.int .i64 (0))).setCell ⟨w.heap.size+1,1,none⟩ (.int .i64 (0))).setCell ⟨w.heap.size+1,2,none⟩ (.int .i64 (0))).setCell ⟨w.heap.size+1,3,none⟩ (.int .i64 (0))).setCell ⟨w.heap.size+1,4,none⟩ (.int .i64 (0))).setCell ⟨w.heap.size+1,5,none⟩ (.int .u64 (0))=wf:=hwf
     rw [hwf2]
     exact bodyPost_ret (v:=.tuple #[.int .i64 (0),.agg #[.int .i64 (0),.int .i64 (0),.int .i64 (0),.int .i64 (0),.int .i64 (0),.int .u64 (0)],.int .i64 (30)]) (by simp [results,Tryz.results51,go_sem,q0,q1,q2,q3,q4,q5]) rfl ⟨by rw [HT.out];rfl,by rw [HT.out];exact HF.out.2.1.block rfl,⟨HF.out.2.2.os,HF.out.2.2.tape,HF.out.2.2.output,HF.out.2.2.size,HF.out.2.2.block⟩⟩
   ·have h1b:decide (hp≤tn)=false:=decide_eq_false h1
    have h1c:tn<hp:=by omega
    rcases Nat.eq_zero_or_pos tl.length with hz | hz
    ·have htl:tl=[]:=List.length_eq_zero_iff.1 hz
     subst htl
     rw [if_neg (by simp [tkAbove,h1]),if_neg (by simp)] at HTR
     go_upto_region 11 with fail
     go_region
     all_goals
      have hs1:(1:Int)≤hs:=by omega
      have HW4:=Lib.hid (HW3.out.setCell (p:=⟨w.heap.size,2,none⟩) (Nat.le_refl _) (.int .i64 tn))
      have HH4:=Lib.hid (HH3.out.ch ((Ch.refl (fun j=>j=w.heap.size) w3).setCell (p:=⟨w.heap.size,2,none⟩) rfl (.int .i64 tn)) (by omega))
      have HR4:=Lib.hid (blk_far HR3.out (a:=⟨w.heap.size,2,none⟩) (by simp) (.int .i64 tn))
      have HW5:=Lib.hid (HW4.out.setCell (p:=⟨w.heap.size,3,none⟩) (Nat.le_refl _) (.int .i64 (hs - 1)))
      have HH5:=Lib.hid (HH4.out.ch ((Ch.refl (fun j=>j=w.heap.size) _).setCell (p:=⟨w.heap.size,3,none⟩) rfl (.int .i64 (hs - 1))) (by omega))
      have HR5:=Lib.hid (blk_far HR4.out (a:=⟨w.heap.size,3,none⟩) (by simp) (.int .i64 (hs - 1)))
      rcases Bool.eq_false_or_eq_true (tn == 0) with g1 | g1 <;> rcases Bool.eq_false_or_eq_true (hs == 1) with g3 | g3
      ·have HT:=Lib.hid (show takeR ⟨hm,hp,ht,hs,hr,hc⟩ B=⟨ht,⟨hm,hp,tn,hs - 1,hr,hc⟩,0,B⟩ by rw [HTR.out,g1,g3];simp)
       go_wp2_with fail
       go_region
       all_goals
        go_wp2_with fail
        have HF:=Lib.hid (take_fin HW5.out HH5.out HR5.out (Nat.le_succ _) (by omega) ⟨hm,hp,tn,hs - 1,hr,hc⟩)
        obtain ⟨q0,q1,q2,q3,q4,q5,q6⟩:=hd_cells HF.out.1
        generalize hwf:hdS ((w3.setCell ⟨w.heap.size,2,none⟩ (.int .i64 tn)).setCell ⟨w.heap.size,3,none⟩ (.int .i64 (hs - 1))) (w.heap.size+1) ⟨hm,hp,tn,hs - 1,hr,hc⟩=wf at *
        have hwf2:(((((((w3.setCell ⟨w.heap.size,2,none⟩ (.int .i64 tn)).setCell ⟨w.heap.size,3,none⟩ (.int .i64 (hs - 1))).setCell ⟨w.heap.size+1,0,none⟩ (.int .i64 (hm))).setCell ⟨w.heap.size+1,1,none⟩ (.int .i64 (hp))).setCell ⟨w.heap.size+1,2,none⟩ (.int .i64 (tn))).setCell ⟨w.heap.size+1,3,none⟩ (.int .i64 (hs - 1))).setCell ⟨w.heap.size+1,4,none⟩ (.int .i64 (hr))).setCell ⟨w.heap.size+1,5,none⟩ (.int .u64 (hc))=wf:=hwf
        rw [hwf2]
        exact bodyPost_ret (v:=.tuple #[.int .i64 (ht),.agg #[.int .i64 (hm),.int .i64 (hp),.int .i64 (tn),.int .i64 (hs - 1),.int .i64 (hr),.int .u64 (hc)],.int .i64 (0)]) (by simp [results,Tryz.results51,go_sem,q0,q1,q2,q3,q4,q5]) rfl ⟨by rw [HT.out];rfl,by rw [HT.out];exact HF.out.2.1.block rfl,⟨HF.out.2.2.os,HF.out.2.2.tape,HF.out.2.2.output,HF.out.2.2.size,HF.out.2.2.block⟩⟩
      ·have HT:=Lib.hid (show takeR ⟨hm,hp,ht,hs,hr,hc⟩ B=takeBad B 30 by rw [HTR.out,g1,g3];simp)
       go_wp2_with fail
       have HF:=Lib.hid (take_fin HW4.out HH4.out HR4.out (Nat.le_succ _) (by omega) ⟨0,0,0,0,0,0⟩)
       obtain ⟨q0,q1,q2,q3,q4,q5,q6⟩:=hd_cells HF.out.1
       generalize hwf:hdS (w3.setCell ⟨w.heap.size,2,none⟩ (.int .i64 tn)) (w.heap.size+1) ⟨0,0,0,0,0,0⟩=wf at *
       have hwf2:((((((w3.setCell ⟨w.heap.size,2,none⟩ (.int .i64 tn)).setCell ⟨w.heap.size+1,0,none⟩ (.int .i64 (0))).setCell ⟨w.heap.size+1,1,none⟩ (.int .i64 (0))).setCell ⟨w.heap.size+1,2,none⟩ (.int .i64 (0))).setCell ⟨w.heap.size+1,3,none⟩ (.int .i64 (0))).setCell ⟨w.heap.size+1,4,none⟩ (.int .i64 (0))).setCell ⟨w.heap.size+1,5,none⟩ (.int .u64 (0))=wf:=hwf
       rw [hwf2]
       exact bodyPost_ret (v:=.tuple #[.int .i64 (0),.agg #[.int .i64 (0),.int .i64 (0),.int .i64 (0),.int .i64 (0),.int .i64 (0),.int .u64 (0)],.int .i64 (30)]) (by simp [results,Tryz.results51,go_sem,q0,q1,q2,q3,q4,q5]) rfl ⟨by rw [HT.out];rfl,by rw [HT.out];exact HF.out.2.1.block rfl,⟨HF.out.2.2.os,HF.out.2.2.tape,HF.out.2.2.output,HF.out.2.2.size,HF.out.2.2.block⟩⟩
      ·have HT:=Lib.hid (show takeR ⟨hm,hp,ht,hs,hr,hc⟩ B=takeBad B 30 by rw [HTR.out,g1,g3];simp)
       go_wp2_with fail
       have HF:=Lib.hid (take_fin HW4.out HH4.out HR4.out (Nat.le_succ _) (by omega) ⟨0,0,0,0,0,0⟩)
       obtain ⟨q0,q1,q2,q3,q4,q5,q6⟩:=hd_cells HF.out.1
       generalize hwf:hdS (w3.setCell ⟨w.heap.size,2,none⟩ (.int .i64 tn)) (w.heap.size+1) ⟨0,0,0,0,0,0⟩=wf at *
       have hwf2:((((((w3.setCell ⟨w.heap.size,2,none⟩ (.int .i64 tn)).setCell ⟨w.heap.size+1,0,none⟩ (.int .i64 (0))).setCell ⟨w.heap.size+1,1,none⟩ (.int .i64 (0))).setCell ⟨w.heap.size+1,2,none⟩ (.int .i64 (0))).setCell ⟨w.heap.size+1,3,none⟩ (.int .i64 (0))).setCell ⟨w.heap.size+1,4,none⟩ (.int .i64 (0))).setCell ⟨w.heap.size+1,5,none⟩ (.int .u64 (0))=wf:=hwf
       rw [hwf2]
       exact bodyPost_ret (v:=.tuple #[.int .i64 (0),.agg #[.int .i64 (0),.int .i64 (0),.int .i64 (0),.int .i64 (0),.int .i64 (0),.int .u64 (0)],.int .i64 (30)]) (by simp [results,Tryz.results51,go_sem,q0,q1,q2,q3,q4,q5]) rfl ⟨by rw [HT.out];rfl,by rw [HT.out];exact HF.out.2.1.block rfl,⟨HF.out.2.2.os,HF.out.2.2.tape,HF.out.2.2.output,HF.out.2.2.size,HF.out.2.2.block⟩⟩
      ·have HT:=Lib.hid (show takeR ⟨hm,hp,ht,hs,hr,hc⟩ B=⟨ht,⟨hm,hp,tn,hs - 1,hr,hc⟩,0,B⟩ by rw [HTR.out,g1,g3];simp)
       go_wp2_with fail
       go_region
       all_goals
        go_wp2_with fail
        have HF:=Lib.hid (take_fin HW5.out HH5.out HR5.out (Nat.le_succ _) (by omega) ⟨hm,hp,tn,hs - 1,hr,hc⟩)
        obtain ⟨q0,q1,q2,q3,q4,q5,q6⟩:=hd_cells HF.out.1
        generalize hwf:hdS ((w3.setCell ⟨w.heap.size,2,none⟩ (.int .i64 tn)).setCell ⟨w.heap.size,3,none⟩ (.int .i64 (hs - 1))) (w.heap.size+1) ⟨hm,hp,tn,hs - 1,hr,hc⟩=wf at *
        have hwf2:(((((((w3.setCell ⟨w.heap.size,2,none⟩ (.int .i64 tn)).setCell ⟨w.heap.size,3,none⟩ (.int .i64 (hs - 1))).setCell ⟨w.heap.size+1,0,none⟩ (.int .i64 (hm))).setCell ⟨w.heap.size+1,1,none⟩ (.int .i64 (hp))).setCell ⟨w.heap.size+1,2,none⟩ (.int .i64 (tn))).setCell ⟨w.heap.size+1,3,none⟩ (.int .i64 (hs - 1))).setCell ⟨w.heap.size+1,4,none⟩ (.int .i64 (hr))).setCell ⟨w.heap.size+1,5,none⟩ (.int .u64 (hc))=wf:=hwf
        rw [hwf2]
        exact bodyPost_ret (v:=.tuple #[.int .i64 (ht),.agg #[.int .i64 (hm),.int .i64 (hp),.int .i64 (tn),.int .i64 (hs - 1),.int .i64 (hr),.int .u64 (hc)],.int .i64 (0)]) (by simp [results,Tryz.results51,go_sem,q0,q1,q2,q3,q4,q5]) rfl ⟨by rw [HT.out];rfl,by rw [HT.out];exact HF.out.2.1.block rfl,⟨HF.out.2.2.os,HF.out.2.2.tape,HF.out.2.2.output,HF.out.2.2.size,HF.out.2.2.block⟩⟩
    ·obtain ⟨m,hm1⟩:∃ m,tl.length=m+1:=⟨tl.length - 1,by omega⟩
     have hml:m<tl.length:=by omega
     have hl1:(tl.length:Int) - 1=(m:Int):=by omega
     have hl2:(0:Int)≤(m:Int):=by omega
     have hl2b:decide ((0:Int)≤(m:Int))=true:=decide_eq_true hl2
     have hl3:(m:Int)<(tl.length:Int):=by omega
     have hcap:tl.length≤c:=HO3.out.cap
     have hl5:(tl.length:Int)≤50:=by have:=(tk_ok HBD.out).2.2.1;simp only at this;omega
     have hl6:(m:Int)≤50:=by omega
     have hl4:(m:Int)≤(c:Int):=by omega
     have HM:=Lib.hid (show tl.length - 1=m by omega)
     obtain ⟨b,off,c',he,hbl,hcs⟩:=(HO3.out.sl iC_len).at1 hml
     injection he with he1 he2 he3
     subst he1 he3
     have e0:w3.cell? ⟨b,off+m,none⟩=some (.int .i64 tl[m]):=by simpa using hcs 0 _ rfl
     have HTK:=Lib.hid ((HO3.out.sl iC_len).take m (by omega))
     have HLE:=Lib.hid (show (tl.take m).length≤1000000 by
      have:=(tk_ok HBD.out).2.2.1
      simp only at this
      rw [List.length_take];omega)
     have HGD:=Lib.hid (show tl.getD m 0=tl[m] by simp [hml])
     have HB6:=Lib.hid (tkBad_take HBD.out m)
     have HPZ:=Lib.hid (show decide (0<tl.length)=true from decide_eq_true hz)
     rw [HM.out,HGD.out] at HTR
     rw [if_pos hz] at HTR
     clear hcs hm1 hz
     generalize tl[m]=x at *
     by_cases h2:hp≤x
     ·have HT:=Lib.hid (show takeR ⟨hm,hp,ht,hs,hr,hc⟩ B=takeBad B 30 by
       rw [HTR.out,if_pos]
       unfold tkAbove
       simp only [h1b,HPZ.out,HM.out,HGD.out,decide_eq_true h2]
       rfl)
      have h2b:decide (hp≤x)=true:=decide_eq_true h2
      go_upto_region 11 with fail
      go_region
      all_goals
       go_wp2_with fail
       have HF:=Lib.hid (take_fin HW3.out HH3.out HR3.out (Nat.le_succ _) (by omega) ⟨0,0,0,0,0,0⟩)
       obtain ⟨q0,q1,q2,q3,q4,q5,q6⟩:=hd_cells HF.out.1
       generalize hwf:hdS (w3) (w.heap.size+1) ⟨0,0,0,0,0,0⟩=wf at *
       have hwf2:((((((w3).setCell ⟨w.heap.size+1,0,none⟩ (.int .i64 (0))).setCell ⟨w.heap.size+1,1,none⟩ (.int .i64 (0))).setCell ⟨w.heap.size+1,2,none⟩ (.int .i64 (0))).setCell ⟨w.heap.size+1,3,none⟩ (.int .i64 (0))).setCell ⟨w.heap.size+1,4,none⟩ (.int .i64 (0))).setCell ⟨w.heap.size+1,5,none⟩ (.int .u64 (0))=wf:=hwf
       rw [hwf2]
       exact bodyPost_ret (v:=.tuple #[.int .i64 (0),.agg #[.int .i64 (0),.int .i64 (0),.int .i64 (0),.int .i64 (0),.int .i64 (0),.int .u64 (0)],.int .i64 (30)]) (by simp [results,Tryz.results51,go_sem,q0,q1,q2,q3,q4,q5]) rfl ⟨by rw [HT.out];rfl,by rw [HT.out];exact HF.out.2.1.block rfl,⟨HF.out.2.2.os,HF.out.2.2.tape,HF.out.2.2.output,HF.out.2.2.size,HF.out.2.2.block⟩⟩
     ·have HT:=Lib.hid (show takeR ⟨hm,hp,ht,hs,hr,hc⟩ B=⟨x,⟨hm,hp,ht,hs - 1,hr,hc⟩,0,updB B ht (fullL (tkB ⟨tn,tl.take m⟩))⟩ by
       rw [HTR.out,if_neg]
       unfold tkAbove
       simp only [h1b,HPZ.out,HM.out,HGD.out,decide_eq_false h2]
       simp)
      have h2b:decide (hp≤x)=false:=decide_eq_false h2
      have hs1:(1:Int)≤hs:=by omega
      go_upto_region 11 with fail
      go_region
      all_goals
       go_upto_region 15 with fail
       have HBW:=Lib.hid (show Below w3.heap.size w3 w3.drew.drew from ((Below.refl _ w3).drew).drew)
       have HLB:=Lib.hid (show layB ⟨tn,tl.take m⟩ B ht=updB B ht (fullL (tkB ⟨tn,tl.take m⟩))∧layE ⟨tn,tl.take m⟩=0 by unfold layB layE;rw [HB6.out];exact ⟨rfl,rfl⟩)
       go_cut [8] from 70 to 80 (fun sv wc=>sv=.int .i64 0∧BookIs wc gm (updB B ht (fullL (tkB ⟨tn,tl.take m⟩)))∧wc.heap[w.heap.size]?=some (hdB ⟨hm,hp,ht,hs,hr,hc⟩)∧wc.heap[w.heap.size+1]?=some (hdB Hd.zero)∧Ch (fun k=>k=gm) w wc)
       case first=>
        go_region_with (go_at_call 103;refine (lay_any ht ⟨tn,tl.take m⟩ _ gm B w3.drew.drew (HH3.out.block rfl) k3 k4 (HTK.out.keep HBW.out) HLE.out).mono ?_;rintro e w5 ⟨rfl,hbk,hch⟩)
        all_goals
         have HM5:=Lib.hid (show BookIs w5 gm (updB B ht (fullL (tkB ⟨tn,tl.take m⟩)))∧w5.heap[w.heap.size]?=some (hdB ⟨hm,hp,ht,hs,hr,hc⟩)∧w5.heap[w.heap.size+1]?=some (hdB Hd.zero)∧Ch (fun k=>k=gm) w w5 from
          ⟨by rw [← HLB.out.1];exact hbk,hch.keep (show w3.drew.drew.heap[w.heap.size]?=_ from HX3.out) (by omega),hch.keep (show w3.drew.drew.heap[w.heap.size+1]?=_ from HR3.out) (by omega),((Ch.of_below (S:=fun k=>k=gm) HW3.out).drew.drew).trans hch⟩)
         rw [HLB.out.2]
         clear hbk hch
         go_wp2_with fail
         go_meet
         case rel=>exact ⟨rfl,HM5.out⟩
       case rest=>
        obtain ⟨rfl,hbk,hx6,hr6,hc6⟩:=hcut
        have HBK:=Lib.hid hbk
        have HR6:=Lib.hid hr6
        have HC6:=Lib.hid hc6
        have HX6:=Lib.hid hx6
        clear hbk hr6 hc6 hx6 a0 a1 a2 a3 a4 a5 b0 b1 b2 b3 b4 b5 c0 c1 c2 c3 c4 c5 d0 d1 d2 d3 d4 d5 t0 t1 t2 t3 t4 e0
        obtain ⟨a0,a1,a2,a3,a4,a5,a7⟩:=hd_cells HX6.out
        obtain ⟨b0,b1,b2,b3,b4,b5⟩:=hd_frozen HX6.out
        obtain ⟨c0,c1,c2,c3,c4,c5,c7⟩:=hd_cells HR6.out
        obtain ⟨d0,d1,d2,d3,d4,d5⟩:=hd_frozen HR6.out
        simp only [Hd.zero] at a0 a1 a2 a3 a4 a5 c0 c1 c2 c3 c4 c5
        go_wp2_with fail
        go_region
        all_goals
         go_wp2_with fail
         have HF:=Lib.hid (take_fin2 (HC6.out.then ((Ch.refl (fun j=>j=w.heap.size) wc).setCell (p:=⟨w.heap.size,3,none⟩) rfl (.int .i64 (hs - 1))) (fun i e=>.inr (by omega))) (HBK.out.ch ((Ch.refl (fun j=>j=w.heap.size) wc).setCell (p:=⟨w.heap.size,3,none⟩) rfl (.int .i64 (hs - 1))) (by omega)) (blk_far HR6.out (a:=⟨w.heap.size,3,none⟩) (by simp) (.int .i64 (hs - 1))) (Nat.le_succ _) (by omega) ⟨hm,hp,ht,hs - 1,hr,hc⟩)
         obtain ⟨q0,q1,q2,q3,q4,q5,q6⟩:=hd_cells HF.out.1
         generalize hwf:hdS (wc.setCell ⟨w.heap.size,3,none⟩ (.int .i64 (hs - 1))) (w.heap.size+1) ⟨hm,hp,ht,hs - 1,hr,hc⟩=wf at *
         have hwf2:((((((wc.setCell ⟨w.heap.size,3,none⟩ (.int .i64 (hs - 1))).setCell ⟨w.heap.size+1,0,none⟩ (.int .i64 (hm))).setCell ⟨w.heap.size+1,1,none⟩ (.int .i64 (hp))).setCell ⟨w.heap.size+1,2,none⟩ (.int .i64 (ht))).setCell ⟨w.heap.size+1,3,none⟩ (.int .i64 (hs - 1))).setCell ⟨w.heap.size+1,4,none⟩ (.int .i64 (hr))).setCell ⟨w.heap.size+1,5,none⟩ (.int .u64 (hc))=wf:=hwf
         rw [hwf2]
         exact bodyPost_ret (v:=.tuple #[.int .i64 (x),.agg #[.int .i64 (hm),.int .i64 (hp),.int .i64 (ht),.int .i64 (hs - 1),.int .i64 (hr),.int .u64 (hc)],.int .i64 (0)]) (by simp [results,Tryz.results51,go_sem,q0,q1,q2,q3,q4,q5]) rfl ⟨by rw [HT.out];rfl,by rw [HT.out];exact HF.out.2.1.block rfl,⟨HF.out.2.2.os,HF.out.2.2.tape,HF.out.2.2.output,HF.out.2.2.size,HF.out.2.2.block⟩⟩
end Go.Proofs.YtknioodagnjchaaGreatDoor
namespace Go.Proofs.YtknioodagnjchaaGreatDoor
open Go.RowKit Go.Maps
structure Sf where
 lim:Int
 h:Hd
 B:Int→List UInt8
 left:Int
def shB (s:Sf) (gm:Nat):Obj:=.cells #[.int .i64 s.lim,.int .i64 s.h.mode,.int .i64 s.h.pages,.int .i64 s.h.trunk,.int .i64 s.h.spare,.int .i64 s.h.root,.int .u64 s.h.change,.map (some gm),.int .i64 s.left] 93 (0,0)
structure Sf.Ok (s:Sf):Prop where
 h:s.h.Ok
 l:∀ n,(s.B n).length=232
 l0:-1≤s.left
 l1:s.left≤1000000000
structure ShIs (w:World) (gs gm:Nat) (s:Sf):Prop where
 blk:w.heap[gs]?=some (shB s gm)
 book:BookIs w gm s.B
 ne:gm≠gs
 ok:s.Ok
theorem sh_cells {w:World} {g gm:Nat} {s:Sf} (hh:w.heap[g]?=some (shB s gm)):w.cell? ⟨g,0,none⟩=some (.int .i64 s.lim)∧w.cell? ⟨g,1,none⟩=some (.int .i64 s.h.mode)∧w.cell? ⟨g,2,none⟩=some (.int .i64 s.h.pages)∧w.cell? ⟨g,3,none⟩=some (.int .i64 s.h.trunk)∧
  w.cell? ⟨g,4,none⟩=some (.int .i64 s.h.spare)∧w.cell? ⟨g,5,none⟩=some (.int .i64 s.h.root)∧w.cell? ⟨g,6,none⟩=some (.int .u64 s.h.change)∧w.cell? ⟨g,7,none⟩=some (.map (some gm))∧w.cell? ⟨g,8,none⟩=some (.int .i64 s.left)∧g<w.heap.size∧∀ i,w.frozen? ⟨g,i,none⟩=false:=
 ⟨blk_cell hh 0,blk_cell hh 1,blk_cell hh 2,blk_cell hh 3,blk_cell hh 4,blk_cell hh 5,blk_cell hh 6,blk_cell hh 7,blk_cell hh 8,blk_lt hh,blk_frozen hh⟩
theorem ShIs.ch {S:Nat→Prop} {w w':World} {gs gm:Nat} {s:Sf} (h:ShIs w gs gm s) (hc:Ch S w w') (h1:¬ S gs) (h2:¬ S gm):ShIs w' gs gm s:=⟨hc.keep h.blk h1,h.book.ch hc h2,h.ne,h.ok⟩
def begS (s:Sf):Sf:=if 0<s.left then { s with left:=s.left - 1 } else s
def begE (s:Sf) (n:Int):Int:=if s.left=0 then 11 else if n<1∨s.h.pages≤n then 21 else 0
theorem begS_ok {s:Sf} (h:s.Ok):(begS s).Ok:=by
 unfold begS
 split
 ·exact ⟨h.h,h.l,by have:=h.l0;simp only;omega,by have:=h.l1;simp only;omega⟩
 ·exact h
theorem blk_set_sh {w:World} {gs gm:Nat} {s:Sf} (h:w.heap[gs]?=some (shB s gm)) (v:Int):(w.setCell ⟨gs,8,none⟩ (.int .i64 v)).heap[gs]?=some (shB { s with left:=v } gm):=blk_set h 8 _
theorem begin_any (n:Int) (gs gm:Nat) (s:Sf) (w:World) (h:ShIs w gs gm s):
  Calls Tryz.prog 50 #[.pointer (some ⟨gs,0,none⟩),.int .i64 n] w fun e w'=>e=.returned (.int .i64 (begE s n))∧ShIs w' gs gm (begS s)∧Ch (fun k=>k=gs) w w':=by
 have H:=Lib.hid h
 obtain ⟨a0,a1,a2,a3,a4,a5,a6,a7,a8,a9,a10⟩:=sh_cells h.blk
 have b8:=a10 8
 have o1:=h.ok.l0
 have o2:=h.ok.l1
 have HOK:=Lib.hid (begS_ok h.ok)
 clear h a10
 go_enter Tryz.func50,Tryz.ntmps50
 by_cases h0:s.left=0
 ·have HE:=Lib.hid (show begE s n=11∧begS s=s by simp [begE,begS,h0])
  rw [h0] at a8
  go_wp2_with fail
  go_ret
  exact ⟨by rw [HE.out.1];rfl,by rw [HE.out.2];exact H.out,Ch.refl _ _⟩
 ·have h01:(s.left == 0)=false:=by simpa using h0
  by_cases hp:0<s.left
  ·have HS:=Lib.hid (show begS s={ s with left:=s.left - 1 } by simp [begS,hp])
   have HB:=Lib.hid (show ShIs (w.setCell ⟨gs,8,none⟩ (.int .i64 (s.left - 1))) gs gm (begS s) from ⟨by rw [HS.out];exact blk_set_sh H.out.blk _,by rw [HS.out];exact H.out.book.ch ((Ch.refl (fun j=>j=gs) w).setCell (p:=⟨gs,8,none⟩) rfl _) H.out.ne,H.out.ne,HOK.out⟩)
   have HC:=Lib.hid ((Ch.refl (fun j=>j=gs) w).setCell (p:=⟨gs,8,none⟩) rfl (.int .i64 (s.left - 1)))
   by_cases hn:n<1
   ·have HE:=Lib.hid (show begE s n=21 by simp [begE,h0,hn])
    go_wp2_with fail
    go_ret
    exact ⟨by rw [HE.out];rfl,HB.out,HC.out⟩
   ·have hn2:(1:Int)≤n:=by omega
    by_cases hg:s.h.pages≤n
    ·have HE:=Lib.hid (show begE s n=21 by simp [begE,h0,hg])
     go_wp2_with fail
     go_ret
     exact ⟨by rw [HE.out];rfl,HB.out,HC.out⟩
    ·have HE:=Lib.hid (show begE s n=0 by simp [begE,h0,hn,hg])
     have hg2:n<s.h.pages:=by omega
     go_wp2_with fail
     go_ret
     exact ⟨by rw [HE.out];rfl,HB.out,HC.out⟩
  ·have HS:=Lib.hid (show begS s=s by simp [begS,hp])
   have hp2:s.left≤0:=by omega
   have HB:=Lib.hid (show ShIs w gs gm (begS s) by rw [HS.out];exact H.out)
   by_cases hn:n<1
   ·have HE:=Lib.hid (show begE s n=21 by simp [begE,h0,hn])
    go_wp2_with fail
    go_ret
    exact ⟨by rw [HE.out];rfl,HB.out,Ch.refl _ _⟩
   ·have hn2:(1:Int)≤n:=by omega
    by_cases hg:s.h.pages≤n
    ·have HE:=Lib.hid (show begE s n=21 by simp [begE,h0,hg])
     go_wp2_with fail
     go_ret
     exact ⟨by rw [HE.out];rfl,HB.out,Ch.refl _ _⟩
    ·have HE:=Lib.hid (show begE s n=0 by simp [begE,h0,hn,hg])
     have hg2:n<s.h.pages:=by omega
     go_wp2_with fail
     go_ret
     exact ⟨by rw [HE.out];rfl,HB.out,Ch.refl _ _⟩
theorem begE_ok {s:Sf} {n:Int} (h:begE s n=0):1≤n∧n<s.h.pages:=by
 unfold begE at h
 split at h
 ·cases h
 ·split at h
  ·cases h
  ·omega
theorem begS_B (s:Sf):(begS s).B=s.B:=by unfold begS;split <;> rfl
def getV (s:Sf) (n:Int):List UInt8:=if begE s n=0 then s.B n else []
theorem sGet_any (n:Int) (gs gm:Nat) (s:Sf) (w:World) (h:ShIs w gs gm s):
  Calls Tryz.prog 139 #[.pointer (some ⟨gs,0,none⟩),.int .i64 n] w fun e w'=>e=.returned (.tuple #[.string (mkS (getV s n)),.int .i64 (begE s n)])∧ShIs w' gs gm (begS s)∧Ch (fun k=>k=gs) w w':=by
 have HP:=Lib.hid h.ok.h.p2
 go_enter Tryz.func139,Tryz.ntmps139
 go_wp2_with fail
 refine (begin_any n gs gm s w h).mono ?_
 rintro e w1 ⟨rfl,hs,hc⟩
 have HS:=Lib.hid hs
 have HC:=Lib.hid hc
 obtain ⟨-,-,-,-,-,-,-,a7,-,a9,-⟩:=sh_cells hs.blk
 clear h hs hc
 obtain ⟨be,hbe⟩:∃ be,be=begE s n:=⟨_,rfl⟩
 rw [← hbe]
 have HBE:=Lib.hid hbe
 clear hbe
 by_cases h0:be=0
 ·obtain ⟨q0,q1⟩:=begE_ok (HBE.out.symm.trans h0)
  have HV:=Lib.hid (show getV s n=s.B n by unfold getV;rw [← HBE.out,if_pos h0])
  have HBK:=Lib.hid (show BookIs w1 gm s.B from begS_B s ▸ HS.out.book)
  subst h0
  go_wp2_with fail
  refine (bookGet_any n gm s.B w1 HBK.out (wf_page (by omega) (by have:=HP.out;omega))).mono ?_
  rintro e w2 ⟨rfl,hb⟩
  have HB2:=Lib.hid hb
  clear hb
  go_wp2_with fail
  go_ret2
  rw [HV.out]
  exact ⟨by rw [← HBE.out];rfl,HS.out.ch (Ch.of_below (S:=fun _=>False) HB2.out) id id,HC.out.trans (Ch.of_below HB2.out)⟩
 ·have hb1:(be == 0)=false:=by simpa using h0
  have HV:=Lib.hid (show getV s n=[] by unfold getV;rw [← HBE.out,if_neg h0])
  go_wp2_with fail
  go_ret2
  rw [HV.out]
  exact ⟨by rw [← HBE.out];rfl,HS.out,HC.out⟩
def putE (s:Sf) (n:Int) (l:List UInt8):Int:=if begE s n=0 then if l.length=232 then 0 else 1 else begE s n
def putS (s:Sf) (n:Int) (l:List UInt8):Sf:=if begE s n=0∧l.length=232 then { begS s with B:=updB s.B n l } else begS s
theorem updB_len {B:Int→List UInt8} (h:∀ n,(B n).length=232) {n:Int} {l:List UInt8} (hl:l.length=232):∀ m,(updB B n l m).length=232:=fun m=>by
 unfold updB;split <;> simp [*]
theorem sPut_any (n:Int) (d:ByteArray) (gs gm:Nat) (s:Sf) (w:World) (h:ShIs w gs gm s):
  Calls Tryz.prog 19 #[.pointer (some ⟨gs,0,none⟩),.int .i64 n,.string d] w fun e w'=>e=.returned (.int .i64 (putE s n (bs d)))∧ShIs w' gs gm (putS s n (bs d))∧Ch (fun k=>k=gs∨k=gm) w w':=by
 have HP:=Lib.hid h.ok.h.p2
 have HK:=Lib.hid h.ok
 have hbs:=bs_len d
 go_enter Tryz.func19,Tryz.ntmps19
 go_wp2_with fail
 refine (begin_any n gs gm s w h).mono ?_
 rintro e w1 ⟨rfl,hs,hc⟩
 have HS:=Lib.hid hs
 have HC:=Lib.hid (hc.mono (S':=fun k=>k=gs∨k=gm) (fun _ _ e=>.inl e))
 obtain ⟨-,-,-,-,-,-,-,a7,-,a9,-⟩:=sh_cells hs.blk
 clear h hs hc
 obtain ⟨be,hbe⟩:∃ be,be=begE s n:=⟨_,rfl⟩
 rw [← hbe]
 have HBE:=Lib.hid hbe
 clear hbe
 by_cases h0:be=0
 ·obtain ⟨q0,q1⟩:=begE_ok (HBE.out.symm.trans h0)
  have HBK:=Lib.hid (show BookIs w1 gm s.B from begS_B s ▸ HS.out.book)
  by_cases hl:d.size=232
  ·have HV:=Lib.hid (show putE s n (bs d)=0∧putS s n (bs d)={ begS s with B:=updB s.B n (bs d) } by
    unfold putE putS
    rw [← HBE.out,if_pos h0,if_pos (by rw [hbs];exact hl),if_pos ⟨h0,by rw [hbs];exact hl⟩]
    exact ⟨rfl,rfl⟩)
   have HKN:=Lib.hid (show Sf.Ok { begS s with B:=updB s.B n (bs d) } from ⟨(begS_ok HK.out).h,updB_len HK.out.l (by rw [hbs];exact hl),(begS_ok HK.out).l0,(begS_ok HK.out).l1⟩)
   have hl2:(d.size:Int)=232:=by omega
   subst h0
   go_wp2_with fail
   refine (bookPut_any n d gm s.B w1 HBK.out (by omega) (by have:=HP.out;omega)).mono ?_
   rintro e w2 ⟨rfl,hbk,hch⟩
   have HB2:=Lib.hid hbk
   have HC2:=Lib.hid hch
   clear hbk hch
   go_wp2_with fail
   go_ret
   refine ⟨by rw [HV.out.1];rfl,?_,HC.out.trans (HC2.out.mono (fun _ _ e=>.inr e))⟩
   rw [HV.out.2]
   exact ⟨HC2.out.keep HS.out.blk (fun e=>HS.out.ne e.symm),HB2.out,HS.out.ne,HKN.out⟩
  ·have HV:=Lib.hid (show putE s n (bs d)=1∧putS s n (bs d)=begS s by
    unfold putE putS
    rw [← HBE.out,if_pos h0,if_neg (by rw [hbs];exact hl),if_neg (fun h=>hl (by rw [← hbs];exact h.2))]
    exact ⟨rfl,rfl⟩)
   have hl2:((d.size:Int) == 232)=false:=by simp;omega
   subst h0
   go_wp2_with fail
   go_ret
   exact ⟨by rw [HV.out.1];rfl,by rw [HV.out.2];exact HS.out,HC.out⟩
 ·have hb1:(be == 0)=false:=by simpa using h0
  have HV:=Lib.hid (show putE s n (bs d)=be∧putS s n (bs d)=begS s by
   unfold putE putS
   rw [← HBE.out,if_neg h0,if_neg (fun h=>h0 h.1)]
   exact ⟨rfl,rfl⟩)
  go_wp2_with fail
  go_ret
  exact ⟨by rw [HV.out.1];rfl,by rw [HV.out.2];exact HS.out,HC.out⟩
end Go.Proofs.YtknioodagnjchaaGreatDoor
namespace Go.Proofs.YtknioodagnjchaaGreatDoor
open Go.RowKit Go.Maps
def freshH:Hd:=⟨1,1,0,0,0,0⟩
def limC (n:Int):Int:=min (max n 1) 4096
def newS (n:Int):Sf:=⟨limC n,freshH,fun _=>blankL,-1⟩
theorem freshH_ok:freshH.Ok:=⟨by decide,by decide,by decide,by decide,by decide,by decide⟩
theorem blankL_len:blankL.length=232:=List.length_replicate
theorem newS_ok (n:Int):(newS n).Ok:=⟨freshH_ok,fun _=>blankL_len,by show (-1:Int)≤-1;omega,by show (-1:Int)≤1000000000;omega⟩
theorem fresh_any (w:World):Calls Tryz.prog 48 #[] w fun e w'=>e=.returned (.agg #[.int .i64 1,.int .i64 1,.int .i64 0,.int .i64 0,.int .i64 0,.int .u64 0])∧Below w.heap.size w w':=by
 go_enter Tryz.func48,Tryz.ntmps48
 go_wp2_with fail
 obtain ⟨q0,q1,q2,q3,q4,q5,q6⟩:=hd_cells (blk_new (w0:=w) (g:=w.heap.size) (o:=hdB freshH) rfl)
 exact bodyPost_ret (v:=.agg #[.int .i64 1,.int .i64 1,.int .i64 0,.int .i64 0,.int .i64 0,.int .u64 0]) (by simp [results,Tryz.results48,go_sem]) rfl ⟨rfl,(Below.refl _ w).alloc (Nat.le_refl _) _⟩
theorem sHead_any (gs gm:Nat) (s:Sf) (w:World) (h:ShIs w gs gm s):
  Calls Tryz.prog 29 #[.pointer (some ⟨gs,0,none⟩)] w fun e w'=>e=.returned (.agg #[.int .i64 s.h.mode,.int .i64 s.h.pages,.int .i64 s.h.trunk,.int .i64 s.h.spare,.int .i64 s.h.root,.int .u64 s.h.change])∧Below w.heap.size w w':=by
 obtain ⟨a0,a1,a2,a3,a4,a5,a6,a7,a8,a9,-⟩:=sh_cells h.blk
 go_enter Tryz.func29,Tryz.ntmps29
 go_wp2_with fail
 exact bodyPost_ret (v:=.agg #[.int .i64 s.h.mode,.int .i64 s.h.pages,.int .i64 s.h.trunk,.int .i64 s.h.spare,.int .i64 s.h.root,.int .u64 s.h.change]) (by simp [results,Tryz.results29,go_sem]) rfl ⟨rfl,(Below.refl _ w).alloc (Nat.le_refl _) _⟩
theorem sNewShelf_any (n:Int) (w:World):
  Calls Tryz.prog 15 #[.int .i64 n] w fun e w'=>∃ gs gm,e=.returned (.pointer (some ⟨gs,0,none⟩))∧ShIs w' gs gm (newS n)∧w.heap.size≤gs∧w.heap.size≤gm∧Below w.heap.size w w':=by
 go_enter Tryz.func15,Tryz.ntmps15
 go_wp2_with fail
 refine (fresh_any w).mono ?_
 rintro e w1 ⟨rfl,hb⟩
 have HB:=Lib.hid hb
 clear hb
 go_wp2_with fail
 have HBK:=Lib.hid (BookIs.made w1)
 have HB2:=Lib.hid (HB.out.alloc HB.out.size (.map #[] 0))
 rw [run_makeMap]
 simp only [Result.andThen]
 go_wp2_with fail
 go_ret
 refine ⟨_,w1.heap.size,rfl,⟨blk_new (by simp),?_,by simp,newS_ok n⟩,?_,HB.out.size,?_⟩
 ·exact HBK.out.ch (Ch.alloc (Ch.refl (fun _=>False) _) _) id
 ·have:=HB.out.size;simp;omega
 ·exact HB2.out.alloc HB2.out.size _
theorem sArm_any (n:Int) (gs gm:Nat) (s:Sf) (w:World) (h:ShIs w gs gm s) (h1:n≤1000000000):
  Calls Tryz.prog 31 #[.pointer (some ⟨gs,0,none⟩),.int .i64 n] w fun e w'=>e=.returned (.tuple #[])∧ShIs w' gs gm { s with left:=max n 0 - 1 }∧Ch (fun k=>k=gs) w w':=by
 obtain ⟨a0,a1,a2,a3,a4,a5,a6,a7,a8,a9,a10⟩:=sh_cells h.blk
 have b8:=a10 8
 have H:=Lib.hid h
 clear h a10
 go_enter Tryz.func31,Tryz.ntmps31
 go_wp2_with fail
 refine bodyPost_end (results_none rfl _ _ _) rfl ⟨rfl,?_,(Ch.refl (fun j=>j=gs) w).setCell (p:=⟨gs,8,none⟩) rfl _⟩
 exact ⟨blk_set_sh H.out.blk _,H.out.book.ch ((Ch.refl (fun j=>j=gs) w).setCell (p:=⟨gs,8,none⟩) rfl _) H.out.ne,H.out.ne,⟨H.out.ok.h,H.out.ok.l,by show (-1:Int)≤max n 0 - 1;omega,by show max n 0 - 1≤1000000000;omega⟩⟩
end Go.Proofs.YtknioodagnjchaaGreatDoor
namespace Go.Proofs.YtknioodagnjchaaGreatDoor
structure Given where
 h:Hd
 e:Int
 B:Int→List UInt8
def giveBad (B:Int→List UInt8) (e:Int):Given:=⟨Hd.zero,e,B⟩
def giveR (h:Hd) (B:Int→List UInt8) (n:Int):Given:=
 if n<1∨h.pages≤n then giveBad B 1
 else if h.pages - 1≤h.spare then giveBad B 30
 else if h.trunk=0 then ⟨{ h with trunk:=n,spare:=h.spare+1 },0,updB B n (fullL (tkB ⟨0,[]⟩))⟩
 else if decOk (B h.trunk)=false then giveBad B 30
 else if (decP (B h.trunk)).list.length<50 then ⟨{ h with spare:=h.spare+1 },0,updB B h.trunk (fullL (tkB ⟨(decP (B h.trunk)).next,(decP (B h.trunk)).list ++ [n]⟩))⟩
 else ⟨{ h with trunk:=n,spare:=h.spare+1 },0,updB B n (fullL (tkB ⟨h.trunk,[]⟩))⟩
end Go.Proofs.YtknioodagnjchaaGreatDoor
namespace Go.Proofs.YtknioodagnjchaaGreatDoor
abbrev By:=List UInt8
def klt (a b:By):Bool:=Op.bytesLess a b
theorem klt_cons {a b:UInt8} {x y:By}:klt (a :: x) (b :: y)=true↔a<b∨a=b∧klt x y=true:=by
 simp [klt,Op.bytesLess]
theorem klt_nil (x:By):klt x []=false:=by cases x <;> rfl
theorem klt_irr:∀ a:By,klt a a=false
 | []=>rfl
 | a :: x=>by
   cases h:klt (a :: x) (a :: x)
   ·rfl
   ·rcases klt_cons.1 h with h | ⟨_,h⟩
    ·exact absurd h (by simp)
    ·rw [klt_irr x] at h;cases h
theorem klt_trans:∀ {a b c:By},klt a b=true→klt b c=true→klt a c=true
 | _,[],_,h,_=>by rw [klt_nil] at h;cases h
 | _,_,[],_,h=>by rw [klt_nil] at h;cases h
 | [],_ :: _,_ :: _,_,_=>rfl
 | a :: x,b :: y,c :: z,h1,h2=>by
   rw [klt_cons] at *
   rcases h1 with h1 | ⟨rfl,h1⟩
   ·rcases h2 with h2 | ⟨rfl,h2⟩
    ·exact .inl (UInt8.lt_trans h1 h2)
    ·exact .inl h1
   ·rcases h2 with h2 | ⟨rfl,h2⟩
    ·exact .inl h2
    ·exact .inr ⟨rfl,klt_trans h1 h2⟩
theorem klt_tri:∀ a b:By,klt a b=true∨a=b∨klt b a=true
 | [],[]=>.inr (.inl rfl)
 | [],_ :: _=>.inl rfl
 | _ :: _,[]=>.inr (.inr rfl)
 | a :: x,b :: y=>by
   rw [klt_cons,klt_cons]
   rcases UInt8.lt_or_lt_of_ne (a:=a) (b:=b) |> fun f=>(Decidable.em (a=b)).elim (fun h=>Or.inr h) (fun h=>Or.inl (f h)) with h | rfl
   ·rcases h with h | h
    ·exact .inl (.inl h)
    ·exact .inr (.inr (.inl h))
   ·rcases klt_tri x y with h | rfl | h
    ·exact .inl (.inr ⟨rfl,h⟩)
    ·exact .inr (.inl rfl)
    ·exact .inr (.inr (.inr ⟨rfl,h⟩))
theorem klt_asymm {a b:By} (h:klt a b=true):klt b a=false:=by
 cases h2:klt b a
 ·rfl
 ·have:=klt_trans h h2;rw [klt_irr] at this;cases this
theorem klt_ne {a b:By} (h:klt a b=true):a≠b:=fun e=>by rw [e,klt_irr] at h;cases h
theorem klt_of_not {a b:By} (h:klt a b=false) (hne:a≠b):klt b a=true:=by
 rcases klt_tri a b with h2 | h2 | h2
 ·rw [h] at h2;cases h2
 ·exact absurd h2 hne
 ·exact h2
theorem klt_le_lt {a b c:By} (h:klt b a=false) (h2:klt b c=true):klt a c=true:=by
 rcases klt_tri a b with h3 | rfl | h3
 ·exact klt_trans h3 h2
 ·exact h2
 ·rw [h] at h3;cases h3
theorem klt_lt_le {a b c:By} (h:klt a b=true) (h2:klt c b=false):klt a c=true:=by
 rcases klt_tri b c with h3 | rfl | h3
 ·exact klt_trans h h3
 ·exact h
 ·rw [h2] at h3;cases h3
theorem klt_le_le {a b c:By} (h:klt b a=false) (h2:klt c b=false):klt c a=false:=by
 cases h3:klt c a
 ·rfl
 ·have:=klt_lt_le h3 h;rw [h2] at this;cases this
structure Ce where
 size:Int
 data:By
 page:Int
deriving DecidableEq
structure Nd where
 leaf:Bool
 keys:List By
 cells:List Ce
 kids:List Int
deriving DecidableEq
def Nd.zero:Nd:=⟨false,[],[],[]⟩
def isPg (n:Int):Bool:=decide (1≤n) && decide (n<4096)
def goodC (c:Ce):Bool:=
 if c.size<0∨5000<c.size then false
 else if c.size≤40 then decide ((c.data.length:Int)=c.size) && decide (c.page=0)
 else decide (c.data=[]) && isPg c.page
def risesB:List By→Bool
 | []=>true
 | [k]=>decide (k.length≤64)
 | a :: b :: r=>decide (a.length≤64) && klt a b && risesB (b :: r)
def unlikeB (l:List Int):Bool:=decide l.Nodup && l.all isPg
def goodN (n:Nd):Bool:=
 risesB n.keys && if n.leaf then decide (n.cells.length=n.keys.length) && decide (n.kids=[]) && n.cells.all goodC
  else decide (n.keys≠[]) && decide (n.kids.length=n.keys.length+1) && decide (n.cells=[]) && unlikeB n.kids
def celB (c:Ce):By:=varL c.size.toNat ++ if 40<c.size then fixL 4 c.page.toNat else c.data
def keyB (k:By):By:=varL k.length ++ k
def leafB:List By→List Ce→By
 | k :: ks,c :: cs=>keyB k ++ celB c ++ leafB ks cs
 | _,_=>[]
def innB:List By→List Int→By
 | k :: ks,d :: ds=>keyB k ++ fixL 4 d.toNat ++ innB ks ds
 | _,_=>[]
def bytesN (n:Nd):By:=
 (if n.leaf then 1 else 2) :: (fixL 2 n.keys.length ++ if n.leaf then leafB n.keys n.cells else fixL 4 (n.kids.getD 0 0).toNat ++ innB n.keys n.kids.tail)
def sizeN (n:Nd):Nat:=if goodN n then (bytesN n).length else 0
structure Rd where
 rest:By
 bad:Bool
def rPart (r:Rd) (n:Nat):By × Rd:=if r.rest.length<n then ([],⟨r.rest,true⟩) else (r.rest.take n,⟨r.rest.drop n,r.bad⟩)
def rSize (r:Rd):Nat × Rd:=if (uvL r.rest).2.2≠0∨5000<(uvL r.rest).1 then (0,⟨r.rest,true⟩) else ((uvL r.rest).1,⟨r.rest.drop (uvL r.rest).2.1,r.bad⟩)
def rPage (r:Rd):Nat × Rd:=(unfN (rPart r 4).1,(rPart r 4).2)
def rCell (r:Rd):Ce × Rd:=
 if 40<(rSize r).1 then (⟨(rSize r).1,[],(rPage (rSize r).2).1⟩,(rPage (rSize r).2).2)
 else (⟨(rSize r).1,(rPart (rSize r).2 (rSize r).1).1,0⟩,(rPart (rSize r).2 (rSize r).1).2)
def rKey (r:Rd):By × Rd:=rPart (rSize r).2 (rSize r).1
def dGo:Nat→Rd→Nd→Rd × Nd
 | 0,r,n=>(r,n)
 | c+1,r,n=>
   if r.bad then (r,n)
   else if n.leaf then dGo c (rCell (rKey r).2).2 { n with keys:=n.keys ++ [(rKey r).1],cells:=n.cells ++ [(rCell (rKey r).2).1] }
   else dGo c (rPage (rKey r).2).2 { n with keys:=n.keys ++ [(rKey r).1],kids:=n.kids ++ [((rPage (rKey r).2).1:Int)] }
def decStart (l:By):Rd × Nd:=
 if l.getD 0 0=1 then (⟨l.drop 3,false⟩,⟨true,[],[],[]⟩)
 else ((rPage ⟨l.drop 3,false⟩).2,⟨false,[],[],[((rPage ⟨l.drop 3,false⟩).1:Int)]⟩)
def decRaw (l:By):Rd × Nd:=dGo (unfN ((l.drop 1).take 2)) (decStart l).1 (decStart l).2
def decFine (l:By):Bool:=!(decRaw l).1.bad && goodN (decRaw l).2 && decide ((bytesN (decRaw l).2).length≤232) && decide (fullL (bytesN (decRaw l).2)=l)
def decN (l:By):Option Nd:=if decFine l then some (decRaw l).2 else none
theorem decN_some {l:By} {n:Nd} (h:decN l=some n):goodN n=true∧(bytesN n).length≤232∧fullL (bytesN n)=l:=by
 unfold decN at h
 split at h
 ·rename_i hf
  injection h with h
  subst h
  simp only [decFine,Bool.and_eq_true,decide_eq_true_eq] at hf
  exact ⟨hf.1.1.2,hf.1.2,hf.2⟩
 ·cases h
theorem rSize_var {n:Nat} (hn:n≤5000) (z:By):rSize ⟨varL n ++ z,false⟩=(n,⟨z,false⟩):=by
 unfold rSize
 simp only [uv_var (show n<16384 by omega)]
 rw [if_neg (by simp;omega)]
 simp
theorem rPart_app (x z:By):rPart ⟨x ++ z,false⟩ x.length=(x,⟨z,false⟩):=by
 unfold rPart
 simp
theorem rKey_app {k:By} (hk:k.length≤64) (z:By):rKey ⟨keyB k ++ z,false⟩=(k,⟨z,false⟩):=by
 unfold rKey keyB
 rw [List.append_assoc,rSize_var (by omega)]
 exact rPart_app k z
theorem rPage_app {n:Nat} (hn:n<4294967296) (z:By):rPage ⟨fixL 4 n ++ z,false⟩=(n,⟨z,false⟩):=by
 have h:=rPart_app (fixL 4 n) z
 rw [fixL_len] at h
 unfold rPage
 rw [h]
 simp only
 rw [unfN_fix 4 n (by omega)]
theorem goodC_page {c:Ce} (h:goodC c=true) (h2:40<c.size):c.data=[]∧1≤c.page∧c.page<4096∧c.size≤5000:=by
 unfold goodC at h
 split at h
 ·cases h
 ·split at h
  ·omega
  ·simp [isPg] at h;exact ⟨h.1,h.2.1,h.2.2,by omega⟩
theorem goodC_in {c:Ce} (h:goodC c=true) (h2:¬ 40<c.size):0≤c.size∧(c.data.length:Int)=c.size∧c.page=0:=by
 unfold goodC at h
 split at h
 ·cases h
 ·split at h
  ·simp at h;exact ⟨by omega,h.1,h.2⟩
  ·omega
theorem rCell_app {c:Ce} (hc:goodC c=true) (z:By):rCell ⟨celB c ++ z,false⟩=(c,⟨z,false⟩):=by
 obtain ⟨sz,da,pg⟩:=c
 by_cases h:40<sz
 ·obtain ⟨h1,h2,h3,h4⟩:=goodC_page hc h
  simp only at h1 h2 h3 h4
  subst h1
  unfold rCell celB
  simp only
  rw [if_pos h,List.append_assoc,rSize_var (by omega)]
  simp only
  rw [if_pos (by omega),rPage_app (by omega)]
  simp only [Prod.mk.injEq,Ce.mk.injEq,and_true,true_and]
  omega
 ·obtain ⟨h1,h2,h3⟩:=goodC_in hc h
  simp only at h1 h2 h3
  subst h3
  unfold rCell celB
  simp only
  rw [if_neg h,List.append_assoc,rSize_var (by omega)]
  simp only
  rw [if_neg (by omega),show sz.toNat=da.length by omega,rPart_app]
  simp only [Prod.mk.injEq,Ce.mk.injEq,and_true]
  omega
theorem risesB_len:∀ {l:List By},risesB l=true→∀ k ∈ l,k.length≤64
 | [],_,k,hk=>absurd hk List.not_mem_nil
 | [a],h,k,hk=>by
   rw [List.mem_singleton.1 hk];simpa [risesB] using h
 | a :: b :: r,h,k,hk=>by
   simp only [risesB,Bool.and_eq_true,decide_eq_true_eq] at h
   rcases List.mem_cons.1 hk with rfl | hk
   ·exact h.1.1
   ·exact risesB_len h.2 k hk
theorem dGo_leaf:∀ (ks:List By) (cs:List Ce) (z:By) (n:Nd),n.leaf=true→cs.length=ks.length→(∀ k ∈ ks,k.length≤64)→(∀ c ∈ cs,goodC c=true)→
  dGo ks.length ⟨leafB ks cs ++ z,false⟩ n=(⟨z,false⟩,⟨true,n.keys ++ ks,n.cells ++ cs,n.kids⟩)
 | [],cs,z,n,hl,hn,_,_=>by
   have:cs=[]:=List.eq_nil_of_length_eq_zero hn
   subst this
   obtain ⟨nl,nk,nc,nd⟩:=n
   simp only at hl
   subst hl
   simp [dGo,leafB]
 | k :: ks,[],_,_,_,hn,_,_=>by simp at hn
 | k :: ks,c :: cs,z,n,hl,hn,hk,hc=>by
   rw [List.length_cons,dGo,if_neg (by simp),if_pos hl]
   simp only [leafB]
   rw [show keyB k ++ celB c ++ leafB ks cs ++ z=keyB k ++ (celB c ++ (leafB ks cs ++ z)) by simp,rKey_app (hk k List.mem_cons_self)]
   simp only
   rw [rCell_app (hc c List.mem_cons_self)]
   simp only
   rw [dGo_leaf ks cs z { n with keys:=n.keys ++ [k],cells:=n.cells ++ [c] } hl (by simpa using hn) (fun x hx=>hk x (List.mem_cons_of_mem _ hx)) (fun x hx=>hc x (List.mem_cons_of_mem _ hx))]
   simp
theorem dGo_inner:∀ (ks:List By) (ds:List Int) (z:By) (n:Nd),n.leaf=false→ds.length=ks.length→(∀ k ∈ ks,k.length≤64)→(∀ d ∈ ds,isPg d=true)→
  dGo ks.length ⟨innB ks ds ++ z,false⟩ n=(⟨z,false⟩,⟨false,n.keys ++ ks,n.cells,n.kids ++ ds⟩)
 | [],ds,z,n,hl,hn,_,_=>by
   have:ds=[]:=List.eq_nil_of_length_eq_zero hn
   subst this
   obtain ⟨nl,nk,nc,nd⟩:=n
   simp only at hl
   subst hl
   simp [dGo,innB]
 | k :: ks,[],_,_,_,hn,_,_=>by simp at hn
 | k :: ks,d :: ds,z,n,hl,hn,hk,hc=>by
   have hd:=hc d List.mem_cons_self
   simp only [isPg,Bool.and_eq_true,decide_eq_true_eq] at hd
   rw [List.length_cons,dGo,if_neg (by simp),if_neg (by rw [hl];simp)]
   simp only [innB]
   rw [show keyB k ++ fixL 4 d.toNat ++ innB ks ds ++ z=keyB k ++ (fixL 4 d.toNat ++ (innB ks ds ++ z)) by simp,rKey_app (hk k List.mem_cons_self)]
   simp only
   rw [rPage_app (by omega)]
   simp only
   rw [dGo_inner ks ds z { n with keys:=n.keys ++ [k],kids:=n.kids ++ [(d.toNat:Int)] } hl (by simpa using hn) (fun x hx=>hk x (List.mem_cons_of_mem _ hx)) (fun x hx=>hc x (List.mem_cons_of_mem _ hx))]
   simp
   omega
theorem leafB_len:∀ (ks:List By) (cs:List Ce),cs.length=ks.length→ks.length≤(leafB ks cs).length
 | [],_,_=>by simp [leafB]
 | k :: ks,[],h=>by simp at h
 | k :: ks,c :: cs,h=>by
   have:=leafB_len ks cs (by simpa using h)
   have h2:=varL_len k.length
   have:1≤(varL k.length).length:=by rw [h2];split <;> omega
   simp [leafB,keyB]
   omega
theorem innB_len:∀ (ks:List By) (ds:List Int),ds.length=ks.length→ks.length≤(innB ks ds).length
 | [],_,_=>by simp [innB]
 | k :: ks,[],h=>by simp at h
 | k :: ks,d :: ds,h=>by
   have:=innB_len ks ds (by simpa using h)
   simp [innB,keyB,fixL_len]
   omega
theorem goodN_leaf {n:Nd} (h:goodN n=true) (hl:n.leaf=true):risesB n.keys=true∧n.cells.length=n.keys.length∧n.kids=[]∧∀ c ∈ n.cells,goodC c=true:=by
 unfold goodN at h
 rw [if_pos hl] at h
 simp only [Bool.and_eq_true,decide_eq_true_eq,List.all_eq_true] at h
 exact ⟨h.1,h.2.1.1,h.2.1.2,h.2.2⟩
theorem goodN_inner {n:Nd} (h:goodN n=true) (hl:n.leaf=false):risesB n.keys=true∧n.keys≠[]∧n.kids.length=n.keys.length+1∧n.cells=[]∧n.kids.Nodup∧∀ d ∈ n.kids,isPg d=true:=by
 unfold goodN at h
 rw [if_neg (by rw [hl];simp)] at h
 simp only [Bool.and_eq_true,decide_eq_true_eq,List.all_eq_true,unlikeB] at h
 exact ⟨h.1,h.2.1.1.1,h.2.1.1.2,h.2.1.2,h.2.2.1,h.2.2.2⟩
theorem goodN_mk_leaf {ks:List By} {cs:List Ce} (h1:risesB ks=true) (h2:cs.length=ks.length) (h3:∀ c ∈ cs,goodC c=true):goodN ⟨true,ks,cs,[]⟩=true:=by
 simp [goodN,h1,h2];exact h3
theorem goodN_mk_inner {ks:List By} {ds:List Int} (h1:risesB ks=true) (h0:ks≠[]) (h2:ds.length=ks.length+1) (h3:ds.Nodup) (h4:∀ d ∈ ds,isPg d=true):goodN ⟨false,ks,[],ds⟩=true:=by
 simp [goodN,h1,h2,h0,unlikeB,h3];exact h4
theorem keys_le_bytes {n:Nd} (h:goodN n=true):n.keys.length+3≤(bytesN n).length:=by
 unfold bytesN
 cases hl:n.leaf
 ·obtain ⟨_,h0,h2,h3,_⟩:=goodN_inner h hl
  have:=innB_len n.keys n.kids.tail (by rw [List.length_tail];omega)
  simp [fixL_len]
  omega
 ·obtain ⟨_,h2,_⟩:=goodN_leaf h hl
  have:=leafB_len n.keys n.cells h2
  simp [fixL_len]
  omega
theorem fullL_app {l:By} (h:l.length≤232):fullL l=l ++ List.replicate (232 - l.length) 0:=by
 unfold fullL;rw [List.take_of_length_le h]
theorem decN_enc {n:Nd} (h:goodN n=true) (h2:(bytesN n).length≤232):decN (fullL (bytesN n))=some n:=by
 have hk:=keys_le_bytes h
 have hraw:(decRaw (fullL (bytesN n))).1.bad=false∧(decRaw (fullL (bytesN n))).2=n:=by
  rw [fullL_app h2]
  generalize List.replicate (232 - (bytesN n).length) (0:UInt8)=z
  unfold decRaw
  have hc:unfN (((bytesN n ++ z).drop 1).take 2)=n.keys.length:=by
   unfold bytesN
   rw [List.cons_append,List.drop_succ_cons,List.drop_zero,List.append_assoc,List.take_append_of_le_length (by rw [fixL_len];omega),List.take_of_length_le (by rw [fixL_len];omega)]
   exact unfN_fix 2 _ (by omega)
  rw [hc]
  cases hl:n.leaf
  ·obtain ⟨hr,h0,hd,h3,h5,h6⟩:=goodN_inner h hl
   have hs:decStart (bytesN n ++ z)=(⟨innB n.keys n.kids.tail ++ z,false⟩,⟨false,[],[],[n.kids.getD 0 0]⟩):=by
    have hd0:isPg (n.kids.getD 0 0)=true:=by
     cases hkk:n.kids with
     | nil=>rw [hkk] at hd;simp at hd
     | cons a l=>exact h6 a (by rw [hkk];simp)
    simp only [isPg,Bool.and_eq_true,decide_eq_true_eq] at hd0
    have hb:bytesN n ++ z=2 :: (fixL 2 n.keys.length ++ (fixL 4 (n.kids.getD 0 0).toNat ++ (innB n.keys n.kids.tail ++ z))):=by
     unfold bytesN;rw [hl];simp
    unfold decStart
    rw [hb]
    rw [if_neg (by simp)]
    rw [show List.drop 3 ((2:UInt8) :: (fixL 2 n.keys.length ++ (fixL 4 (n.kids.getD 0 0).toNat ++ (innB n.keys n.kids.tail ++ z))))=fixL 4 (n.kids.getD 0 0).toNat ++ (innB n.keys n.kids.tail ++ z) by
     rw [List.drop_succ_cons,List.drop_left' (fixL_len 2 _)]]
    rw [rPage_app (by omega)]
    simp only [Prod.mk.injEq,true_and,Nd.mk.injEq,List.cons.injEq,and_true]
    omega
   rw [hs]
   simp only
   rw [dGo_inner n.keys n.kids.tail z ⟨false,[],[],[n.kids.getD 0 0]⟩ rfl (by rw [List.length_tail];omega) (risesB_len hr) (fun d hd=>h6 d (List.mem_of_mem_tail hd))]
   refine ⟨rfl,?_⟩
   obtain ⟨nl,nk,nc,nd⟩:=n
   simp only at hl h3 hd ⊢
   subst hl h3
   cases nd with
   | nil=>simp at hd
   | cons a l=>rfl
  ·obtain ⟨hr,h3,h4,h5⟩:=goodN_leaf h hl
   have hs:decStart (bytesN n ++ z)=(⟨leafB n.keys n.cells ++ z,false⟩,⟨true,[],[],[]⟩):=by
    have hb:bytesN n ++ z=1 :: (fixL 2 n.keys.length ++ (leafB n.keys n.cells ++ z)):=by
     unfold bytesN;rw [hl];simp
    unfold decStart
    rw [hb,if_pos (by simp),List.drop_succ_cons,List.drop_left' (fixL_len 2 _)]
   rw [hs]
   simp only
   rw [dGo_leaf n.keys n.cells z ⟨true,[],[],[]⟩ rfl h3 (risesB_len hr) h5]
   refine ⟨rfl,?_⟩
   obtain ⟨nl,nk,nc,nd⟩:=n
   simp only at hl h4 ⊢
   subst hl h4
   rfl
 unfold decN
 rw [if_pos]
 ·rw [hraw.2]
 ·simp only [decFine,hraw.1,hraw.2,h,h2,decide_true,Bool.not_false,Bool.and_self]
end Go.Proofs.YtknioodagnjchaaGreatDoor
namespace Go.Proofs.YtknioodagnjchaaGreatDoor
inductive Pro (α:Type) where
 | pure:α→Pro α
 | fail:Int→Pro α
 | get:Int→(By→Pro α)→Pro α
 | put:Int→By→(Unit→Pro α)→Pro α
 | new:(Int→Pro α)→Pro α
 | free:Int→(Unit→Pro α)→Pro α
def Pro.bind {α β:Type}:Pro α→(α→Pro β)→Pro β
 | .pure a,f=>f a
 | .fail e,_=>.fail e
 | .get n k,f=>.get n fun l=>(k l).bind f
 | .put n d k,f=>.put n d fun u=>(k u).bind f
 | .new k,f=>.new fun n=>(k n).bind f
 | .free n k,f=>.free n fun u=>(k u).bind f
instance:Monad Pro where
 pure:=.pure
 bind:=.bind
inductive Ans (α:Type) where
 | ok:α→Ans α
 | err:Int→Ans α
def newE (s:Sf):Int:=if s.left=0 then 11 else if s.h.spare=0∧s.lim≤s.h.pages then 22 else (takeR s.h s.B).e
def newN (s:Sf):Int:=if newE s=0 then (takeR s.h s.B).n else 0
def newSt (s:Sf):Sf:=if newE s=0 then { begS s with h:=(takeR s.h s.B).h,B:=updB (takeR s.h s.B).B (takeR s.h s.B).n blankL } else begS s
def freeE (s:Sf) (n:Int):Int:=if begE s n≠0 then begE s n else (giveR s.h s.B n).e
def freeS (s:Sf) (n:Int):Sf:=if freeE s n=0 then { begS s with h:=(giveR s.h s.B n).h,B:=(giveR s.h s.B n).B } else begS s
def Pro.run {α:Type}:Pro α→Sf→Sf × Ans α
 | .pure a,s=>(s,.ok a)
 | .fail e,s=>(s,.err e)
 | .get n k,s=>if begE s n=0 then (k (s.B n)).run (begS s) else (begS s,.err (begE s n))
 | .put n d k,s=>if putE s n d=0 then (k ()).run (putS s n d) else (putS s n d,.err (putE s n d))
 | .new k,s=>if newE s=0 then (k (newN s)).run (newSt s) else (newSt s,.err (newE s))
 | .free n k,s=>if freeE s n=0 then (k ()).run (freeS s n) else (freeS s n,.err (freeE s n))
theorem run_bind {α β:Type}:∀ (p:Pro α) (f:α→Pro β) (s:Sf),(p.bind f).run s=match (p.run s).2 with
  | .ok a=>(f a).run (p.run s).1
  | .err e=>((p.run s).1,.err e)
 | .pure a,f,s=>rfl
 | .fail e,f,s=>rfl
 | .get n k,f,s=>by
   simp only [Pro.bind,Pro.run]
   split
   ·exact run_bind _ f _
   ·rfl
 | .put n d k,f,s=>by
   simp only [Pro.bind,Pro.run]
   split
   ·exact run_bind _ f _
   ·rfl
 | .new k,f,s=>by
   simp only [Pro.bind,Pro.run]
   split
   ·exact run_bind _ f _
   ·rfl
 | .free n k,f,s=>by
   simp only [Pro.bind,Pro.run]
   split
   ·exact run_bind _ f _
   ·rfl
theorem run_bind_ok {α β:Type} {p:Pro α} {f:α→Pro β} {s s1:Sf} {a:α} (h:p.run s=(s1,.ok a)):(p.bind f).run s=(f a).run s1:=by rw [run_bind,h]
theorem run_bind_err {α β:Type} {p:Pro α} {f:α→Pro β} {s s1:Sf} {e:Int} (h:p.run s=(s1,.err e)):(p.bind f).run s=(s1,.err e):=by rw [run_bind,h]
def zerosB (l:By):Bool:=l.all (· == 0)
def pageB (part:By) (next:Int):By:=3 :: (fixL 4 next.toNat ++ part ++ List.replicate (227 - part.length) 0)
def layT (v:By):Nat→Int→Pro Int
 | 0,next=>.pure next
 | j+1,next=>.new fun n=>.put n (pageB ((v.drop (j * 227)).take 227) next) fun _=>layT v j n
def cellT (v:By):Pro Ce:=
 if 5000<v.length then .fail 47
 else if v.length≤40 then .pure ⟨v.length,v,0⟩
 else (layT v ((v.length - 1) / 227+1) 0).bind fun p=>.pure ⟨v.length,[],p⟩
def linkB (l:By) (left:Nat):Option (Int × By):=
 if l.getD 0 0=3∧((unfN ((l.drop 1).take 4)=0)↔left≤227)∧zerosB ((l.drop 5).drop left)=true then some (unfN ((l.drop 1).take 4),(l.drop 5).take left) else none
def goT:Nat→Nat→Int→Pro (By × List Int)
 | 0,_,_=>.pure ([],[])
 | f+1,left,at_=>if left=0 then .pure ([],[]) else .get at_ fun l=>match linkB l left with
   | none=>.fail 30
   | some (next,part)=>(goT f (left - 227) next).bind fun r=>.pure (part ++ r.1,at_ :: r.2)
def walkT (c:Ce):Pro (By × List Int):=if goodC c=false then .fail 1 else if c.page=0 then .pure (c.data,[]) else goT 23 c.size.toNat c.page
def freesT:List Int→Pro Unit
 | []=>.pure ()
 | n :: l=>.free n fun _=>freesT l
def dropcT (c:Ce):Pro Unit:=(walkT c).bind fun r=>freesT r.2
def readT (at_:Int):Pro Nd:=.get at_ fun l=>match decN l with
 | none=>.fail 30
 | some n=>.pure n
def writeT (at_:Int) (n:Nd):Pro Unit:=if goodN n=false∨232<(bytesN n).length then .fail 30 else .put at_ (fullL (bytesN n)) .pure
def makeT:Pro Int:=.new fun n=>(writeT n ⟨true,[],[],[]⟩).bind fun _=>.pure n
def lbN (ks:List By) (k:By):Nat:=(ks.takeWhile fun x=>klt x k).length
def isN (ks:List By) (k:By):Bool:=decide (ks[lbN ks k]?=some k)
def kidN (n:Nd) (k:By):Nat:=if isN n.keys k then lbN n.keys k+1 else lbN n.keys k
def lookT (n:Nd) (k:By):Pro (Option By):=if isN n.keys k then (walkT (n.cells.getD (lbN n.keys k) ⟨0,[],0⟩)).bind fun r=>.pure (some r.1) else .pure none
def findT:Nat→Int→By→Pro (Option By)
 | 0,_,_=>.fail 30
 | f+1,at_,k=>(readT at_).bind fun n=>if n.leaf then lookT n k else findT f (n.kids.getD (kidN n k) 0) k
def tsize (n:Nd):Nat:=if !n.leaf && n.keys.isEmpty then 0 else sizeN n
def fitsN (n:Nd):Bool:=decide (tsize n≤232)
def cutN (n:Nd) (i:Nat):Nd × By × Nd:=
 if n.leaf then (⟨true,n.keys.take i,n.cells.take i,[]⟩,n.keys.getD i [],⟨true,n.keys.drop i,n.cells.drop i,[]⟩)
 else (⟨false,n.keys.take i,[],n.kids.take (i+1)⟩,n.keys.getD i [],⟨false,n.keys.drop (i+1),[],n.kids.drop (i+1)⟩)
def cutOk (x:Nd × By × Nd):Bool:=decide (tsize x.1≠0) && decide (tsize x.2.2≠0) && fitsN x.1 && fitsN x.2.2
def cutD (x:Nd × By × Nd):Nat:=max (tsize x.1) (tsize x.2.2)
def bestN (n:Nd):Nat→Option (Nd × By × Nd)
 | 0=>none
 | k+1=>if cutOk (cutN n (k+1)) then match bestN n k with
     | none=>some (cutN n (k+1))
     | some b=>if cutD (cutN n (k+1))<cutD b then some (cutN n (k+1)) else some b
   else bestN n k
def partsN (n:Nd):Nd × By × Nd:=(bestN n (n.keys.length - 1)).getD (Nd.zero,[],Nd.zero)
def joinN (l:Nd) (b:By) (r:Nd):Nd:=⟨l.leaf,l.keys ++ (if l.leaf then [] else [b]) ++ r.keys,l.cells ++ r.cells,l.kids ++ r.kids⟩
def partT (n:Nd) (i:Nat) (c:Nd):Pro Nd:=.new fun at_=>(writeT (n.kids.getD i 0) (partsN c).1).bind fun _=>(writeT at_ (partsN c).2.2).bind fun _=>
 .pure { n with keys:=n.keys.insertIdx i (partsN c).2.1,kids:=n.kids.insertIdx (i+1) at_ }
def meetT (n:Nd) (i:Nat) (l r:Nd):Pro Nd:=
 if fitsN (joinN l (n.keys.getD i []) r) then (writeT (n.kids.getD i 0) (joinN l (n.keys.getD i []) r)).bind fun _=>
  .free (n.kids.getD (i+1) 0) fun _=>.pure { n with keys:=n.keys.eraseIdx i,kids:=n.kids.eraseIdx (i+1) }
 else (writeT (n.kids.getD i 0) (partsN (joinN l (n.keys.getD i []) r)).1).bind fun _=>(writeT (n.kids.getD (i+1) 0) (partsN (joinN l (n.keys.getD i []) r)).2.2).bind fun _=>
  .pure { n with keys:=n.keys.set i (partsN (joinN l (n.keys.getD i []) r)).2.1 }
def greatN (c:Nd):Bool:=(c.leaf && !c.keys.isEmpty && !fitsN c) || (!c.leaf && !fitsN c)
def settleT (n:Nd) (i:Nat) (c:Nd):Pro Nd:=
 if greatN c then partT n i c
 else if 77≤tsize c then (writeT (n.kids.getD i 0) c).bind fun _=>.pure n
 else if 0<i then (readT (n.kids.getD (i - 1) 0)).bind fun l=>if l.leaf=c.leaf then meetT n (i - 1) l c else .fail 30
 else (readT (n.kids.getD 1 0)).bind fun r=>if r.leaf=c.leaf then meetT n 0 c r else .fail 30
def alterT (act:Nd→Pro (Option Nd)) (k:By):Nat→Int→Pro (Option Nd)
 | f,at_=>(readT at_).bind fun n=>if n.leaf then act n else match f with
   | 0=>.fail 30
   | f+1=>(alterT act k f (n.kids.getD (kidN n k) 0)).bind fun o=>match o with
     | none=>.pure none
     | some c=>(settleT n (kidN n k) c).bind fun n'=>.pure (some n')
def topT (at_:Int) (n:Nd):Pro Unit:=
 if fitsN n then writeT at_ n else .new fun only=>(partT ⟨false,[],[],[only]⟩ 0 n).bind fun t=>writeT at_ t
def rootT:Nat→Int→Nd→Pro Unit
 | 0,at_,n=>topT at_ n
 | f+1,at_,n=>if !n.leaf && n.keys.isEmpty then (readT (n.kids.getD 0 0)).bind fun c=>.free (n.kids.getD 0 0) fun _=>rootT f at_ c else topT at_ n
def alteredT (act:Nd→Pro (Option Nd)) (at_:Int) (k:By):Pro Bool:=(alterT act k 19 at_).bind fun o=>match o with
 | none=>.pure false
 | some n=>(rootT 1 at_ n).bind fun _=>.pure true
def putLeaf (k v:By) (n:Nd):Pro (Option Nd):=
 if isN n.keys k then (dropcT (n.cells.getD (lbN n.keys k) ⟨0,[],0⟩)).bind fun _=>(cellT v).bind fun c=>.pure (some { n with cells:=n.cells.set (lbN n.keys k) c })
 else (cellT v).bind fun c=>.pure (some { n with keys:=n.keys.insertIdx (lbN n.keys k) k,cells:=n.cells.insertIdx (lbN n.keys k) c })
def putTr (at_:Int) (k v:By):Pro Unit:=if 64<k.length then .fail 1 else if 5000<v.length then .fail 47 else (alteredT (putLeaf k v) at_ k).bind fun _=>.pure ()
def cellsT:List Ce→List Int→Pro (List Int)
 | [],out=>.pure out
 | c :: cs,out=>(walkT c).bind fun r=>cellsT cs (out ++ r.2)
def listGo:Nat→Int→List Int→Pro (List Int)
 | 0,at_,_=>(readT at_).bind fun _=>.fail 30
 | f+1,at_,out=>(readT at_).bind fun n=>if 4096≤out.length then .fail 30 else
   (cellsT n.cells (out ++ [at_])).bind fun o=>n.kids.foldl (fun p k=>p.bind fun o=>listGo f k o) (.pure o)
def listT (root:Int):Pro (List Int):=listGo 20 root []
def dropT (root:Int):Pro Unit:=(listT root).bind freesT
end Go.Proofs.YtknioodagnjchaaGreatDoor
