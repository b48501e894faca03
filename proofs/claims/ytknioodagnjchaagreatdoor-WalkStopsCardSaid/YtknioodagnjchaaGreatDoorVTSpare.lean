/- spare.Encode: trunks as pages. -/
import Derived.Test.YtknioodagnjchaaGreatDoorVNu
import Derived.Test.YtknioodagnjchaaGreatDoorVShelf
import Derived.Deep.Cut
set_option maxRecDepth 100000
set_option maxHeartbeats 1000000
namespace Go.Proofs.YtknioodagnjchaaGreatDoor
open Go.RowKit
def iC (n:Int):List Value:=[.int .i64 n]
theorem iC_len (n:Int):(iC n).length=1:=rfl
def oddB (n:Int):Bool:=decide (n<1) || decide (4096≤n)
theorem odd_any (n:Int) (w:World):Calls Tryz.prog 177 #[.int .i64 n] w fun e w'=>e=.returned (.bool (oddB n))∧w=w':=by
 go_enter Tryz.func177,Tryz.ntmps177
 by_cases h1:n<1
 ·go_wp2_with fail
  go_ret
  exact ⟨ret_b (by unfold oddB;rw [decide_eq_true h1];rfl),rfl⟩
 ·have h2:(1:Int)≤n:=by omega
  go_wp2_with fail
  go_ret
  exact ⟨ret_b (by unfold oddB;rw [show decide (n<1)=false from decide_eq_false (by omega)];rfl),rfl⟩
theorem Sl.at1 {α:Type} {f:α→List Value} {size:Nat} {w:World} {v:Value} {xs:List α} (h:Sl f size w v xs) {k:Nat} (hk:k<xs.length):
  ∃ b off c,v=.slice (some ⟨b,off,none⟩) xs.length c∧b<w.heap.size∧∀ j u,(f xs[k])[j]?=some u→w.cell? ⟨b,off+k * size+j,none⟩=some u:=by
 obtain ⟨b,off,c,he,-,hbl,hs⟩:=(h.cases).resolve_left (fun ⟨_,_,_,h⟩=>by rw [h] at hk;simp at hk)
 exact ⟨b,off,c,he,hbl,(hs.cells hk).2⟩
theorem indexOdd_any (v:Value) (xs:List Int) (w:World) (h:Sl iC 1 w v xs) (hl:xs.length≤1000000):
  Calls Tryz.prog 209 #[v,.func (Fn.func 177) #[] #[]] w fun e w'=>e=.returned (.int .i64 (firstOr oddB xs))∧w=w':=by
 obtain ⟨A,c,rfl⟩:=Sl.len' h
 have H:=Lib.hid h
 clear h
 go_enter Tryz.func209,Tryz.ntmps209
 go_wp2_with fail
 go_loop [8] (fun i=>∃ k:Nat,k≤xs.length∧i=.int .i64 k∧∀ j (h:j<xs.length),j<k→oddB xs[j]=false) (fun i=>xs.length - (intOf i).toNat)
 case atStart=>exact ⟨0,Nat.zero_le _,rfl,fun _ _ h=>absurd h (Nat.not_lt_zero _)⟩
 case round=>
  obtain ⟨k,hk,rfl,hno⟩:=hrel
  have HN:=Lib.hid hno
  clear hno
  by_cases hlt:k<xs.length
  ·obtain ⟨b,off,c,he,hbl,hcells⟩:=H.out.at1 hlt
   injection he with he1 he2 he3
   subst he1 he3
   have e0:w.cell? ⟨b,off+k,none⟩=some (.int .i64 xs[k]):=by simpa using hcells 0 _ rfl
   have hk0:(0:Int)≤(k:Int):=by omega
   have hk1:(k:Int)<(xs.length:Int):=by omega
   have HI:=Lib.hid (show oddB xs[k]=true→firstOr oddB xs=k from fun h=>firstOr_at hlt h HN.out)
   have HU:=Lib.hid (show oddB xs[k]=false→∀ j (h:j<xs.length),j<k+1→oddB xs[j]=false from fun h=>not_up HN.out hlt h)
   clear hcells
   generalize xs[k]=x at *
   go_wp2_with fail
   refine (odd_any x w).mono ?_
   rintro e w' ⟨rfl,rfl⟩
   cases hx:oddB x
   ·have HX:=Lib.hid (HU.out hx)
    go_wp2_with fail
    go_round
    case rel=>exact ⟨k+1,by omega,by go_num,HX.out⟩
    case measure=>simp [intOf];omega
   ·have HX:=Lib.hid (HI.out hx)
    go_wp2_with fail
    go_ret
    exact ⟨ret_i HX.out.symm,rfl⟩
  ·have HX:=Lib.hid (firstOr_none (p:=oddB) hlt HN.out)
   go_wp2_with fail
   go_ret
   exact ⟨ret_i HX.out.symm,rfl⟩
theorem firstOr_ge {α:Type} (p:α→Bool) (xs:List α):decide (0≤firstOr p xs)=xs.any p:=by
 unfold firstOr
 by_cases h:xs.any p=true
 ·rw [h]
  have:xs.findIdx p<xs.length:=by
   rw [List.findIdx_lt_length]
   simpa using h
  rw [if_pos this]
  exact decide_eq_true (by omega)
 ·rw [Bool.eq_false_iff.2 h]
  have:¬ xs.findIdx p<xs.length:=by
   rw [List.findIdx_lt_length]
   simpa using h
  rw [if_neg this]
  rfl
theorem containsOdd_any (v:Value) (xs:List Int) (w:World) (h:Sl iC 1 w v xs) (hl:xs.length≤1000000):
  Calls Tryz.prog 178 #[v,.func (Fn.func 177) #[] #[]] w fun e w'=>e=.returned (.bool (xs.any oddB))∧w=w':=by
 go_enter Tryz.func178,Tryz.ntmps178
 go_wp2_with fail
 refine (indexOdd_any v xs w h hl).mono ?_
 rintro e w' ⟨rfl,rfl⟩
 have HF:=Lib.hid (firstOr_ge oddB xs)
 generalize firstOr oddB xs=m at *
 go_wp2_with fail
 go_ret
 exact ⟨ret_b HF.out,rfl⟩
structure Tk where
 next:Int
 list:List Int
def tkBad (t:Tk):Bool:=(!(t.next == 0) && oddB t.next) || decide (50<t.list.length) || t.list.any oddB
def tkB (t:Tk):List UInt8:=4 :: (fixL 4 t.next.toNat ++ fixL 1 t.list.length ++ t.list.flatMap fun n=>fixL 4 n.toNat)
def tkR (t:Tk):Value:=if tkBad t then .tuple #[.string (mkS []),.int .i64 1] else .tuple #[.string (mkS (fullL (tkB t))),.int .i64 0]
theorem tk_ok {t:Tk} (h:tkBad t=false):0≤t.next∧t.next<4096∧t.list.length≤50∧∀ x ∈ t.list,1≤x∧x<4096:=by
 unfold tkBad at h
 rw [Bool.or_eq_false_iff,Bool.or_eq_false_iff] at h
 obtain ⟨⟨h1,h2⟩,h3⟩:=h
 rw [List.any_eq_false] at h3
 refine ⟨?_,?_,by simpa using h2,fun x hx=>?_⟩
 ·by_cases h0:t.next=0
  ·omega
  ·simp [h0,oddB] at h1;omega
 ·by_cases h0:t.next=0
  ·omega
  ·simp [h0,oddB] at h1;omega
 ·have:=h3 x hx
  simp [oddB] at this
  omega
theorem tkB_len {t:Tk}:(tkB t).length=6+4 * t.list.length:=by
 unfold tkB
 have:∀ l:List Int,(l.flatMap fun n=>fixL 4 n.toNat).length=4 * l.length:=fun l=>by
  induction l with
  | nil=>rfl
  | cons x l ih=>rw [List.flatMap_cons,List.length_append,ih,fixL_len,List.length_cons];omega
 rw [List.length_cons,List.length_append,List.length_append,fixL_len,fixL_len,this]
 omega
def tkP (t:Tk) (k:Nat):List UInt8:=4 :: (fixL 4 t.next.toNat ++ fixL 1 t.list.length ++ (t.list.take k).flatMap fun n=>fixL 4 n.toNat)
theorem tkP_len {t:Tk} {k:Nat}:(tkP t k).length≤6+4 * t.list.length:=by
 have h:=tkB_len (t:=⟨t.next,t.list.take k⟩)
 unfold tkB at h
 unfold tkP
 simp only [List.length_cons,List.length_append,fixL_len,List.length_take] at h ⊢
 omega
theorem tkP_succ {t:Tk} {k:Nat} (h:k<t.list.length):tkP t (k+1)=tkP t k ++ fixL 4 t.list[k].toNat:=by
 unfold tkP
 rw [List.take_succ_eq_append_getElem h]
 simp only [List.flatMap_append,List.flatMap_cons,List.flatMap_nil,List.append_nil,List.cons_append,List.append_assoc]
theorem repeatL_zero (r:Nat):Lib.repeatL [(0:UInt8)] r=List.replicate r 0:=by
 have:=Lib.repeatL_replicate 0 1 r
 simpa using this
theorem repeat0_any (r:Nat) (w:World) (hr:r≤232):Calls Tryz.prog 104 #[.string ⟨#[0]⟩,.int .i64 r] w fun e w'=>e=.returned (.string (mkS (List.replicate r 0)))∧Below w.heap.size w w':=by
 have h:=Tryz.strings_Repeat ⟨#[0]⟩ r w (by omega) (by show 1 * r≤_;omega)
 rw [show (⟨#[0]⟩:ByteArray).data.toList=[0] from rfl,repeatL_zero] at h
 exact h
theorem fixed4_any (n:Nat) (w:World) (hn:n<18446744073709551616):Calls Tryz.prog 170 #[.int .u64 n,.int .i64 4] w fun e w'=>e=.returned (.string (mkS (fixL 4 n)))∧Below w.heap.size w w':=fixed_any n 4 w hn (by omega) (by omega)
theorem fixed1_any (n:Nat) (w:World) (hn:n<18446744073709551616):Calls Tryz.prog 170 #[.int .u64 n,.int .i64 1] w fun e w'=>e=.returned (.string (mkS (fixL 1 n)))∧Below w.heap.size w w':=fixed_any n 1 w hn (by omega) (by omega)
theorem wrapN {n:Nat} (h:n<1000000):IntKind.u64.wrap (n:Int)=(n:Int):=IntWalk.u64_in _ (by omega)
theorem spareEnc_any (t:Tk) (v:Value) (w:World) (h:Sl iC 1 w v t.list) (hl:t.list.length≤1000000):
  Calls Tryz.prog 141 #[.agg #[.int .i64 t.next,v]] w fun e w'=>e=.returned (tkR t)∧Below w.heap.size w w':=by
 obtain ⟨A,c,rfl⟩:=Sl.len' h
 have H:=Lib.hid h
 clear h
 obtain ⟨nx,ls⟩:=t
 simp only at hl H
 go_enter Tryz.func141,Tryz.ntmps141
 go_upto_region 2 with fail
 have HB:=Lib.hid ((Below.refl _ w).alloc (Nat.le_refl _) (.cells #[.int .i64 nx,.slice A ls.length c] 167))
 have HX:=Lib.hid (blk_new (w0:=w) (o:=.cells #[.int .i64 nx,.slice A ls.length c] 167) rfl)
 generalize w.alloc (.cells #[.int .i64 nx,.slice A ls.length c] 167)=w1 at *
 have c0:=blk_cell HX.out 0
 have c1:=blk_cell HX.out 1
 have hbx:=blk_lt HX.out
 simp only [List.getElem?_toArray,List.getElem?_cons_succ,List.getElem?_cons_zero] at c0 c1
 go_cut [28] from 8 to 28 (fun b wc=>b=.bool (tkBad ⟨nx,ls⟩)∧w1=wc)
 case first=>
  by_cases h0:nx=0
  ·subst h0
   by_cases h50:50<ls.length
   ·have HR:=Lib.hid (show tkBad ⟨0,ls⟩=true by unfold tkBad;simp [h50])
    have h5:(50:Int)<(ls.length:Int):=by omega
    go_wp2_with fail
    go_meet
    case rel=>exact ⟨by rw [HR.out],rfl⟩
   ·have HR:=Lib.hid (show tkBad ⟨0,ls⟩=ls.any oddB by unfold tkBad;simp [h50])
    have h5:(ls.length:Int)≤50:=by omega
    go_wp2_with fail
    refine (containsOdd_any _ ls w1 (H.out.keep HB.out) hl).mono ?_
    rintro e w' ⟨rfl,rfl⟩
    go_wp2_with fail
    go_meet
    case rel=>exact ⟨by rw [HR.out,show decide ((50:Int)<(ls.length:Int))=false from decide_eq_false (by omega)];rfl,rfl⟩
  ·have h1:(nx == 0)=false:=by simpa using h0
   have h2:nx≠0:=h0
   clear h0
   go_wp2_with fail
   refine (odd_any nx w1).mono ?_
   rintro e w' ⟨rfl,rfl⟩
   cases ho:oddB nx
   ·by_cases h50:50<ls.length
    ·have HR:=Lib.hid (show tkBad ⟨nx,ls⟩=true by unfold tkBad;simp [h50])
     have h5:(50:Int)<(ls.length:Int):=by omega
     go_wp2_with fail
     go_meet
     case rel=>exact ⟨by rw [HR.out],rfl⟩
    ·have HR:=Lib.hid (show tkBad ⟨nx,ls⟩=ls.any oddB by unfold tkBad;simp [h50,ho])
     have h5:(ls.length:Int)≤50:=by omega
     go_wp2_with fail
     refine (containsOdd_any _ ls w1 (H.out.keep HB.out) hl).mono ?_
     rintro e w' ⟨rfl,rfl⟩
     go_wp2_with fail
     go_meet
     case rel=>exact ⟨by rw [HR.out,show decide ((50:Int)<(ls.length:Int))=false from decide_eq_false (by omega)];rfl,rfl⟩
   ·have HR:=Lib.hid (show tkBad ⟨nx,ls⟩=true by unfold tkBad;simp [ho,h1])
    go_wp2_with fail
    go_meet
    case rel=>exact ⟨by rw [HR.out],rfl⟩
 case rest=>
  obtain ⟨rfl,rfl⟩:=hcut
  cases hbad:tkBad ⟨nx,ls⟩
  ·obtain ⟨k0,k1,k2,k3⟩:=tk_ok hbad
   simp only at k0 k1 k2 k3
   have HK:=Lib.hid k3
   clear k3
   obtain ⟨m,rfl⟩:∃ m:Nat,nx=m:=⟨nx.toNat,by omega⟩
   clear k0
   have HF1:=Lib.hid (fun (y:Up w1)=>fixed4_any m y.w (by omega))
   have HF2:=Lib.hid (fun (y:Up w1)=>fixed1_any ls.length y.w (by omega))
   go_upto_region 4 with fail
   refine wp_region_up (by kernel_rfl) (by kernel_rfl) ?_
   have f0:=up_at c0 hbx
   have f1:=up_at c1 hbx
   have g0:=wrapN (n:=m) (by omega)
   have g1:=wrapN (n:=ls.length) (by omega)
   have s1:=mkS_size (fixL 4 m)
   have s2:=mkS_size (fixL 1 ls.length)
   rw [fixL_len] at s1 s2
   repeat (go_big_quiet_step (first
    | (go_at_call 170;(with_reducible exact up_call (HF1.out _)))
    | (go_at_call 170;(with_reducible exact up_call (HF2.out _)))))
   refine wpQuiet_nil ?_
   rintro w2 ⟨⟨_,hb2⟩,rfl⟩
   have HB2:=Lib.hid (HB.out.trans (hb2.mono HB.out.size))
   have HS0:({ data:=#[4] }:ByteArray) ++ mkS (fixL 4 m) ++ mkS (fixL 1 ls.length)=mkS (tkP ⟨m,ls⟩ 0):=by
    rw [app_mkS,app_mkS]
    show mkS (([4] ++ fixL 4 m) ++ fixL 1 ls.length)=_
    unfold tkP
    simp
   rw [HS0]
   have HSL:=Lib.hid ((H.out.keep HB.out).keep hb2)
   have c1:=blk_cell (blk_keep HX.out hb2) 1
   have hbx:=blk_lt (blk_keep HX.out hb2)
   simp only [List.getElem?_toArray,List.getElem?_cons_succ,List.getElem?_cons_zero] at c1
   clear hb2 HS0 s1 s2 f0 f1 g0 g1 HF1 HF2
   go_wp2_with fail
   go_loopw [5,43] (fun sv iv wr=>∃ k:Nat,k≤ls.length∧iv=.int .i64 k∧sv=.string (mkS (tkP ⟨m,ls⟩ k))∧Below w2.heap.size w2 wr) (fun _ iv _=>ls.length - (intOf iv).toNat)
   case atStart=>exact ⟨0,Nat.zero_le _,rfl,rfl,Below.refl _ _⟩
   case round=>
    obtain ⟨k,hk,rfl,rfl,hb⟩:=hrel
    have HBR:=Lib.hid hb
    clear hb
    have s1:=mkS_size (tkP ⟨m,ls⟩ k)
    have s2:=tkP_len (t:=⟨m,ls⟩) (k:=k)
    simp only at s2
    by_cases hlt:k<ls.length
    ·obtain ⟨b,off,c',he,hbl,hcells⟩:=(HSL.out.keep HBR.out).at1 hlt
     injection he with he1 he2 he3
     subst he1 he3
     have e0:wr.cell? ⟨b,off+k,none⟩=some (.int .i64 ls[k]):=by simpa using hcells 0 _ rfl
     have hk0:(0:Int)≤(k:Int):=by omega
     have hk1:(k:Int)<(ls.length:Int):=by omega
     have HT:=Lib.hid (tkP_succ (t:=⟨m,ls⟩) hlt)
     simp only at HT
     obtain ⟨q0,q1⟩:=HK.out _ (List.getElem_mem hlt)
     clear hcells
     generalize ls[k]=x at *
     obtain ⟨n,rfl⟩:∃ n:Nat,x=n:=⟨x.toNat,by omega⟩
     have g0:=wrapN (n:=n) (by omega)
     have s3:=mkS_size (fixL 4 n)
     rw [fixL_len] at s3
     go_wp2_with fail
     refine (fixed4_any n wr (by omega)).mono ?_
     rintro e w3 ⟨rfl,hb3⟩
     have HB3:=Lib.hid (HBR.out.trans (hb3.mono HBR.out.size))
     have HS2:=Lib.hid (show mkS (tkP ⟨m,ls⟩ k) ++ mkS (fixL 4 n)=mkS (tkP ⟨m,ls⟩ (k+1)) by rw [app_mkS,bs_mkS,bs_mkS,HT.out];rfl)
     clear hb3 e0
     go_wp2_with fail
     refine ⟨⟨k+1,by omega,by go_num,by rw [HS2.out],HB3.out⟩,?_⟩
     simp [intOf]
     omega
    ·have hkl:k=ls.length:=by omega
     subst hkl
     have HTE:=Lib.hid (show tkP ⟨m,ls⟩ ls.length=tkB ⟨m,ls⟩ by unfold tkP tkB;rw [List.take_length])
     have HRR:=Lib.hid (show tkR ⟨m,ls⟩=.tuple #[.string (mkS (fullL (tkB ⟨m,ls⟩))),.int .i64 0] by unfold tkR;rw [hbad];rfl)
     obtain ⟨r,hr⟩:∃ r:Nat,r=232 - (tkP ⟨m,ls⟩ ls.length).length:=⟨_,rfl⟩
     have hr2:(232:Int) - ((tkP ⟨m,ls⟩ ls.length).length:Int)=(r:Int):=by omega
     have HR:=Lib.hid hr
     have s4:=mkS_size (List.replicate r 0)
     rw [List.length_replicate] at s4
     have hr3:r≤232:=by omega
     clear hr
     go_wp2_with fail
     refine (repeat0_any r wr hr3).mono ?_
     rintro e w3 ⟨rfl,hb3⟩
     have HB3:=Lib.hid (HBR.out.trans (hb3.mono HBR.out.size))
     have HS2:=Lib.hid (show mkS (tkP ⟨m,ls⟩ ls.length) ++ mkS (List.replicate r 0)=mkS (fullL (tkB ⟨m,ls⟩)) by
      rw [app_mkS,bs_mkS,bs_mkS,HR.out,← HTE.out]
      unfold fullL
      rw [List.take_of_length_le (by omega)])
     clear hb3
     go_wp2_with fail
     go_ret2
     rw [HRR.out,HS2.out]
     exact ⟨rfl,HB2.out.trans (HB3.out.mono HB2.out.size)⟩
  ·go_wp2_with fail
   go_ret2
   exact ⟨by unfold tkR;rw [hbad];rfl,HB.out⟩
end Go.Proofs.YtknioodagnjchaaGreatDoor
