/- cahierref17: From, To over a list of pairs. cahierref16.Map: place. cahierref16.Map: what Put makes of a list of rising keys is putP. cahierref16.Map.Put. cahierref16.Same. -/
import Derived.Test.YtknioodagnjchaaGreatDoorVWa
import Derived.Test.YtknioodagnjchaaGreatDoorVPl
import Derived.Test.YtknioodagnjchaaGreatDoorVTSl
set_option maxRecDepth 100000
set_option maxHeartbeats 4000000
namespace Go.Proofs.YtknioodagnjchaaGreatDoor
open Go.RowKit
def prC (p:Pr):List Value:=[.string (mkS p.1),.string (mkS p.2)]
theorem prC_len (p:Pr):(prC p).length=2:=rfl
theorem Sl.pair2 {w:World} {A:Option Addr} {n c k:Nat} {xs:List Pr} (h:Sl prC 2 w (.slice A n c) xs) (hk:k<xs.length):∃ b off,A=some ⟨b,off,none⟩∧b<w.heap.size∧w.cell? ⟨b,off+k * 2,none⟩=some (.string (mkS xs[k].1))∧w.cell? ⟨b,off+k * 2+1,none⟩=some (.string (mkS xs[k].2)):=by
 obtain ⟨A',c',he,h⟩:=h
 injection he with e1 e2 e3
 subst e1 e2
 obtain ⟨b,off,rfl,hlt,hc⟩:=h (by rintro rfl;simp at hk)
 have:=hc k xs[k] (List.getElem?_eq_getElem hk)
 exact ⟨b,off,rfl,hlt,this 0 _ rfl,this 1 _ rfl⟩
theorem key_eq {a b:By}:((mkS a).toList == (mkS b).toList)=decide (a=b):=by
 rw [mkS_toList,mkS_toList]
 by_cases h:a=b <;> simp [h]
end Go.Proofs.YtknioodagnjchaaGreatDoor
namespace Go.Proofs.YtknioodagnjchaaGreatDoor
open Go.RowKit
def plI (ps:List Pr) (k:By):Nat:=(ps.takeWhile fun p=>klt p.1 k).length
def plB (ps:List Pr) (k:By):Bool:=match ps[plI ps k]? with
 | some p=>decide (p.1=k)
 | none=>false
theorem plI_yes {p:Pr} {ps:List Pr} {k:By} (h:klt p.1 k=true):plI (p :: ps) k=plI ps k+1:=by unfold plI;rw [List.takeWhile_cons,if_pos h];rfl
theorem plI_no {p:Pr} {ps:List Pr} {k:By} (h:klt p.1 k=false):plI (p :: ps) k=0:=by unfold plI;rw [List.takeWhile_cons,if_neg (by rw [h];simp)];rfl
theorem plB_at {ps:List Pr} {k:By} {i:Nat} (h:plI ps k=i) (hi:i<ps.length):plB ps k=decide (ps[i].1=k):=by unfold plB;rw [h,List.getElem?_eq_getElem hi]
theorem plB_end {ps:List Pr} {k:By} (h:plI ps k=ps.length):plB ps k=false:=by unfold plB;rw [h,List.getElem?_eq_none (Nat.le_refl _)]
theorem place_any (ps:List Pr) (k:By) (g:Nat) (v:Value) (w:World) (hm:w.heap[g]?=some (.cells #[v] 69 (0,0))) (h:Sl prC 2 w v ps) (hl:ps.length≤1000000):
  Calls Tryz.prog 92 #[.pointer (some ⟨g,0,none⟩),.string (mkS k)] w fun e w'=>e=.returned (.tuple #[.int .i64 (plI ps k),.bool (plB ps k)])∧Below w.heap.size w w':=by
 obtain ⟨A,c,rfl⟩:=Sl.len' h
 have H:=Lib.hid h
 have m0:w.cell? ⟨g,0,none⟩=some (.slice A ps.length c):=blk_cell hm 0
 have m1:=blk_lt hm
 clear h hm
 go_enter Tryz.func92,Tryz.ntmps92
 go_wp2_with fail
 go_loopw [6] (fun s6 wr=>∃ i:Nat,s6=.int .i64 i∧i≤ps.length∧plI ps k=i+plI (ps.drop i) k∧wr=w) (fun s6 _=>ps.length - (intOf s6).toNat)
 case atStart=>exact ⟨0,rfl,Nat.zero_le _,by simp,rfl⟩
 case round=>
  obtain ⟨i,rfl,hi,he,rfl⟩:=hrel
  have HE:=Lib.hid he
  clear he
  by_cases hlt:i<ps.length
  ·obtain ⟨b,off,rfl,hbl,c0,c1⟩:=H.out.pair2 hlt
   have hi0:(0:Int)≤(i:Int):=by omega
   have hi1:(i:Int)<(ps.length:Int):=by omega
   have hi2:IntKind.i64.wrap ((i:Int)+1)=((i+1:Nat):Int):=by rw [IntWalk.i64_in _ (by omega)];rfl
   have HD:=Lib.hid (show plI ps k=i+plI (ps[i] :: ps.drop (i+1)) k by rw [← List.drop_eq_getElem_cons hlt];exact HE.out)
   have HB:=Lib.hid (fun (e:plI ps k=i)=>plB_at e hlt)
   generalize hpi:ps[i]=p at *
   clear hpi HE
   have heq:=key_eq (a:=p.1) (b:=k)
   have hls:Op.bytesLess (mkS p.1).toList (mkS k).toList=klt p.1 k:=by rw [mkS_toList,mkS_toList];rfl
   cases hk:klt p.1 k
   ·rw [hk] at hls
    have hp:plI ps k=i:=by rw [HD.out,plI_no hk];rfl
    have HV:=Lib.hid hp
    have HB2:=Lib.hid (HB.out hp)
    clear hp hk
    by_cases hq:p.1=k
    ·rw [decide_eq_true hq] at heq
     rw [decide_eq_true hq] at HB2
     clear hq
     go_wp2_with fail
     go_region
     all_goals
      go_wp2_with fail
      exact bodyPost_ret (v:=.tuple #[.int .i64 (i:Int),.bool true]) (by simp [results,Tryz.results92,go_sem]) rfl ⟨by rw [HV.out,HB2.out],by go_grown⟩
    ·rw [decide_eq_false hq] at heq
     rw [decide_eq_false hq] at HB2
     clear hq
     go_wp2_with fail
     go_region
     all_goals
      go_wp2_with fail
      exact bodyPost_ret (v:=.tuple #[.int .i64 (i:Int),.bool false]) (by simp [results,Tryz.results92,go_sem]) rfl ⟨by rw [HV.out,HB2.out],by go_grown⟩
   ·rw [hk] at hls
    have HE2:=Lib.hid (show plI ps k=i+1+plI (ps.drop (i+1)) k by rw [HD.out,plI_yes hk];omega)
    clear hk
    go_wp2_with fail
    go_roundw
    case rel=>exact ⟨i+1,rfl,hlt,HE2.out,by trivial⟩
    case measure=>simp [intOf];omega
  ·obtain rfl:i=ps.length:=by omega
   have hp:plI ps k=ps.length:=by rw [HE.out,List.drop_length];rfl
   have HV:=Lib.hid hp
   have HB2:=Lib.hid (plB_end hp)
   clear hp HE hlt hi
   go_wp2_with fail
   go_region
   all_goals
    go_wp2_with fail
    exact bodyPost_ret (v:=.tuple #[.int .i64 (ps.length:Int),.bool false]) (by simp [results,Tryz.results92,go_sem]) rfl ⟨by rw [HV.out,HB2.out],by go_grown⟩
end Go.Proofs.YtknioodagnjchaaGreatDoor
namespace Go.Proofs.YtknioodagnjchaaGreatDoor
open Go.RowKit
def insP (ps:List Pr) (k v:By):List Pr:=ps.take (plI ps k) ++ [(k,v)] ++ ps.drop (if plB ps k then plI ps k+1 else plI ps k)
theorem plB_cons {p:Pr} {ps:List Pr} {k:By} (h:klt p.1 k=true):plB (p :: ps) k=plB ps k:=by
 unfold plB
 rw [plI_yes h,List.getElem?_cons_succ]
theorem ins_parts:∀ (ps:List Pr) (k:By),ps.Pairwise (fun a b=>klt a.1 b.1=true)→ps.take (plI ps k)=ltP ps k∧ps.drop (if plB ps k then plI ps k+1 else plI ps k)=gtP ps k
 | [],k,_=>⟨by simp [ltP],by simp [gtP]⟩
 | p :: ps,k,h=>by
   obtain ⟨h1,h2⟩:=List.pairwise_cons.1 h
   obtain ⟨i1,i2⟩:=ins_parts ps k h2
   rcases klt_tri p.1 k with hk | hk | hk
   ·rw [plI_yes hk,plB_cons hk]
    constructor
    ·rw [List.take_succ_cons,i1]
     unfold ltP
     rw [List.filter_cons,if_pos hk]
    ·have e:(p :: ps).drop (if plB ps k=true then plI ps k+1+1 else plI ps k+1)=ps.drop (if plB ps k=true then plI ps k+1 else plI ps k):=by split <;> rfl
     rw [e,i2]
     unfold gtP
     rw [List.filter_cons,if_neg (by rw [klt_asymm hk];simp)]
   ·have h0:plI (p :: ps) k=0:=plI_no (by rw [hk];exact klt_irr k)
    have hb:plB (p :: ps) k=true:=by rw [plB_at h0 (by simp)];simpa using hk
    have ha:∀ q ∈ ps,klt k q.1=true:=fun q hq=>by rw [← hk];exact h1 q hq
    rw [h0,hb]
    constructor
    ·unfold ltP
     rw [List.filter_cons,if_neg (by rw [hk,klt_irr];simp)]
     exact (ltP_none fun q hq=>klt_asymm (ha q hq)).symm
    ·show ps=gtP (p :: ps) k
     unfold gtP
     rw [List.filter_cons,if_neg (by rw [hk,klt_irr];simp)]
     exact (gtP_all ha).symm
   ·have h0:plI (p :: ps) k=0:=plI_no (klt_asymm hk)
    have hb:plB (p :: ps) k=false:=by rw [plB_at h0 (by simp)];simpa using (klt_ne hk).symm
    have ha:∀ q ∈ p :: ps,klt k q.1=true:=fun q hq=>by
     rcases List.mem_cons.1 hq with rfl | hq
     ·exact hk
     ·exact klt_trans hk (h1 q hq)
    rw [h0,hb]
    exact ⟨(ltP_none fun q hq=>klt_asymm (ha q hq)).symm,(gtP_all ha).symm⟩
theorem ins_put {ps:List Pr} (k v:By) (h:ps.Pairwise (fun a b=>klt a.1 b.1=true)):insP ps k v=putP ps k v:=by
 obtain ⟨h1,h2⟩:=ins_parts ps k h
 unfold insP putP
 rw [h1,h2,List.append_assoc]
 rfl
end Go.Proofs.YtknioodagnjchaaGreatDoor
namespace Go.Proofs.YtknioodagnjchaaGreatDoor
open Go.RowKit
theorem elPr:ElemT Tryz.prog 67 62 prC 2 32:=
 ElemT.mk' (z:=.agg #[.string ⟨#[]⟩,.string ⟨#[]⟩]) Tryz.underlying67 (by kernel_rfl) rfl (by decide) prC_len (fun x u hu=>by
  simp only [prC,List.mem_cons,List.not_mem_nil,or_false] at hu
  rcases hu with rfl | rfl <;> rfl)
theorem Own.dropP {base:Nat} {w:World} {g n c:Nat} {xs:List Pr} (h:Own prC 2 62 base w (.slice (some ⟨g,0,none⟩) n c) xs) {i:Nat} (o:Nat) (ho:i<xs.length→o=i * 2) (m:Nat) (hm:m=xs.length - i) (c':Nat):Sl prC 2 w (.slice (some ⟨g,o,none⟩) m c') (xs.drop i):=by
 subst hm
 refine ⟨some ⟨g,o,none⟩,c',by rw [List.length_drop],fun hne=>?_⟩
 have hlt:i<xs.length:=by
  rcases Nat.lt_or_ge i xs.length with h | h
  ·exact h
  ·exact absurd (List.drop_of_length_le h) hne
 obtain rfl:=ho hlt
 refine ⟨g,i * 2,rfl,(h.lt g rfl).2,fun k x hx j u hu=>?_⟩
 rw [List.getElem?_drop] at hx
 rcases (h.sl prC_len).cases with ⟨_,_,_,h0⟩ | ⟨b2,off2,c2,he,-,hb2,hsl⟩
 ·rw [h0] at hlt;simp at hlt
 ·injection he with e1 e2 e3
  injection e1 with e1
  injection e1 with e4 e5
  subst e4 e5
  obtain ⟨hk,rfl⟩:=List.getElem?_eq_some_iff.1 hx
  have:=(hsl.cells hk).2 j u hu
  rw [show i * 2+k * 2+j=0+(i+k) * 2+j by omega]
  exact this
theorem set1 {w:World} {g:Nat} {v:Value} {t:TypeId} (h:w.heap[g]?=some (.cells #[v] t (0,0))) (u:Value):(w.setCell ⟨g,0,none⟩ u).heap[g]?=some (.cells #[u] t (0,0)):=by
 simp [World.setCell,Array.getElem?_modify,h]
theorem plI_le (ps:List Pr) (k:By):plI ps k≤ps.length:=(List.takeWhile_sublist _).length_le
theorem plB_lt {ps:List Pr} {k:By} (h:plB ps k=true):plI ps k<ps.length:=by
 rcases Nat.lt_or_ge (plI ps k) ps.length with h1 | h1
 ·exact h1
 ·rw [plB_end (Nat.le_antisymm (plI_le _ _) h1)] at h;cases h
def MpIs (w:World) (g base:Nat) (ps:List Pr):Prop:=∃ v,w.heap[g]?=some (.cells #[v] 69 (0,0))∧Own prC 2 62 base w v ps
theorem mput_any (ps:List Pr) (k x:By) (g base:Nat) (w:World) (h:MpIs w g base ps) (hl:ps.length≤1000):
  Calls Tryz.prog 44 #[.pointer (some ⟨g,0,none⟩),.string (mkS k),.string (mkS x)] w fun e w'=>(∃ r,e=.returned r)∧MpIs w' g w.heap.size (insP ps k x)∧Ch (fun j=>j=g) w w':=by
 obtain ⟨v,hm,h⟩:=h
 have HPL:=Lib.hid (place_any ps k g v w hm (h.sl prC_len) (by omega))
 have HIN:=Lib.hid (show insP ps k x=ps.take (plI ps k) ++ [(k,x)] ++ ps.drop (if plB ps k then plI ps k+1 else plI ps k) from rfl)
 have HIB:=Lib.hid (plB_lt (ps:=ps) (k:=k))
 have hn:=plI_le ps k
 generalize plI ps k=p at *
 generalize plB ps k=q at *
 have HM:=Lib.hid hm
 have m0:=blk_cell hm 0
 have m1:=blk_lt hm
 clear hm
 rcases h.2 with ⟨rfl,h0⟩ | ⟨g2,c,cur,rfl,hbs,hg2,hnc,hmx,hcc,htk⟩
 ·obtain rfl:ps=[]:=List.eq_nil_of_length_eq_zero h0
  obtain rfl:p=0:=by simpa using hn
  obtain rfl:q=false:=by
   cases q
   ·rfl
   ·exact absurd (HIB.out rfl) (by simp)
  clear h h0 hn
  go_enter Tryz.func44,Tryz.ntmps44
  go_wp2_with fail
  refine HPL.out.mono ?_
  rintro e w1 ⟨rfl,hb⟩
  have HM1:=Lib.hid (blk_keep HM.out hb)
  have HB1:=Lib.hid hb
  have hsz:=hb.size
  clear m0 hb
  have m0:=blk_cell HM1.out 0
  have m2:=blk_lt HM1.out
  have HOX:=Lib.hid (show Own prC 2 62 w1.heap.size (w1.alloc (.cells #[] 62)) (.slice (some ⟨w1.heap.size,0,none⟩) 0 0) ([]:List Pr) from World.ownsRow_lit w1 #[] 0 (Nat.le_refl _) (by simp [maxLen]) (by simp))
  go_wp2_with (at_builtin;refine Hid.out ?_)
  refine Lib.hid ?_
  refine wpList_append_sl rfl rfl elPr rfl rfl HOX.out (Sl.nil (f:=prC) (size:=2)) (by simp [maxLen]) (by simp) (by simp) ?_
  intro v4 w4 ho hg hat
  have HO4:=Lib.hid (show Own prC 2 62 w1.heap.size w4 v4 ([]:List Pr) from ho)
  have HB4:=Lib.hid (show Below w1.heap.size w1 w4 from below_app ((Below.refl _ w1).alloc (Nat.le_refl _) _) hg (by simp) (fun j hj=>(HOX.out.lt j hj).1))
  clear ho hg hat
  obtain ⟨A4,c4,rfl⟩:=Sl.len' (HO4.out.sl prC_len)
  go_wp2_with (at_builtin;refine Hid.out ?_)
  refine Lib.hid ?_
  refine wpList_append_sl (base:=w1.heap.size) rfl rfl elPr rfl rfl (HO4.out.alloc _) (Sl.one ((k,x):Pr) (by simp) prC_len rfl) (by simp [maxLen]) (by simp) (by have:=HB4.out.size;simp;omega) ?_
  intro v5 w5 ho hg hat
  have HO5:=Lib.hid (show Own prC 2 62 w1.heap.size w5 v5 [(k,x)] from ho)
  have HB5:=Lib.hid (show Below w1.heap.size w1 w5 from below_app (HB4.out.alloc HB4.out.size _) hg (by have:=HB4.out.size;simp;omega) (fun j hj=>(HO4.out.lt j hj).1))
  clear ho hg hat
  have hlt5:[((k,x):Pr)].length=0+1:=rfl
  obtain ⟨A5,c5,rfl⟩:=Sl.len' (HO5.out.sl prC_len)
  have HM5:=Lib.hid (blk_keep HM1.out HB5.out)
  clear m0 m2
  have m0:=blk_cell HM5.out 0
  have m2:=blk_lt HM5.out
  have m3:=blk_frozen HM5.out
  go_wp2_with (at_builtin;refine Hid.out ?_)
  refine Lib.hid ?_
  refine wpList_append_sl (base:=w1.heap.size) rfl rfl elPr rfl rfl HO5.out (Sl.nil (f:=prC) (size:=2)) (by simp [maxLen] <;> omega) (by simp <;> omega) (by have:=HB5.out.size;simp;omega) ?_
  intro v7 w7 ho hg hat
  have HO7:=Lib.hid (show Own prC 2 62 w1.heap.size w7 v7 (insP [] k x) by rw [HIN.out];exact ho)
  have HB7:=Lib.hid (show Below w1.heap.size w1 w7 from below_app HB5.out hg (by have:=HB5.out.size;omega) (fun j hj=>(HO5.out.lt j hj).1))
  clear ho hg hat
  obtain ⟨A7,c7,rfl⟩:=Sl.len' (HO7.out.sl prC_len)
  have HM7:=Lib.hid (blk_keep HM1.out HB7.out)
  clear m0 m2 m3
  have m0:=blk_cell HM7.out 0
  have m2:=blk_lt HM7.out
  have m3:=blk_frozen HM7.out
  go_wp2_with fail
  refine bodyPost_end (results_none rfl _ _ _) rfl ?_
  have hset:=(Ch.refl (fun j=>j=g) w7).setCell (p:=⟨g,0,none⟩) rfl (.slice A7 (insP [] k x).length c7)
  exact ⟨⟨_,rfl⟩,⟨_,set1 HM7.out _,(HO7.out.ch hset fun j hj e=>by have:=(HO7.out.lt j hj).1;omega).base hsz⟩,(Ch.of_below HB1.out).trans ((Ch.of_below HB7.out).trans hset)⟩
 ·have H:=Lib.hid h
  have hg2l:=blk_lt hg2
  have f2:=blk_frozen hg2
  clear h hg2 hmx hcc htk hbs
  go_enter Tryz.func44,Tryz.ntmps44
  go_wp2_with fail
  refine HPL.out.mono ?_
  rintro e w1 ⟨rfl,hb⟩
  have HM1:=Lib.hid (blk_keep HM.out hb)
  have H1:=Lib.hid (H.out.below hb)
  have HB1:=Lib.hid hb
  have hsz:=hb.size
  clear m0 hb
  have m0:=blk_cell HM1.out 0
  have m2:=blk_lt HM1.out
  have hp0:(p:Int)≤(c:Int):=by omega
  have hp1:(0:Int)≤(p:Int):=by omega
  have hp2:(p:Int)≤(ps.length:Int):=by omega
  have HOX:=Lib.hid (show Own prC 2 62 w1.heap.size (w1.alloc (.cells #[] 62)) (.slice (some ⟨w1.heap.size,0,none⟩) 0 0) ([]:List Pr) from World.ownsRow_lit w1 #[] 0 (Nat.le_refl _) (by simp [maxLen]) (by simp))
  go_wp2_with (at_builtin;refine Hid.out ?_)
  refine Lib.hid ?_
  have hlt:(ps.take p).length=p:=by rw [List.length_take];omega
  refine wpList_append_sl rfl rfl elPr rfl rfl HOX.out (((H1.out.take' prC_len hn).sl prC_len).alloc _) (by rw [hlt];simp [maxLen];omega) (by rw [hlt];simp;omega) (by simp) ?_
  intro v4 w4 ho hg hat
  have HO4:=Lib.hid (show Own prC 2 62 w1.heap.size w4 v4 (ps.take p) from ho)
  have HB4:=Lib.hid (show Below w1.heap.size w1 w4 from below_app ((Below.refl _ w1).alloc (Nat.le_refl _) _) hg (by simp) (fun j hj=>(HOX.out.lt j hj).1))
  clear ho hg hat
  obtain ⟨A4,c4,hv4⟩:=Sl.len' (HO4.out.sl prC_len)
  rw [hlt] at hv4
  subst hv4
  go_wp2_with (at_builtin;refine Hid.out ?_)
  refine Lib.hid ?_
  refine wpList_append_sl (base:=w1.heap.size) rfl rfl elPr rfl rfl (HO4.out.alloc _) (Sl.one ((k,x):Pr) (by simp) prC_len rfl) (by rw [hlt];simp [maxLen];omega) (by rw [hlt];simp;omega) (by have:=HB4.out.size;simp;omega) ?_
  intro v5 w5 ho hg hat
  have HO5:=Lib.hid (show Own prC 2 62 w1.heap.size w5 v5 (ps.take p ++ [(k,x)]) from ho)
  have HB5:=Lib.hid (show Below w1.heap.size w1 w5 from below_app (HB4.out.alloc HB4.out.size _) hg (by have:=HB4.out.size;simp;omega) (fun j hj=>(HO4.out.lt j hj).1))
  clear ho hg hat
  have hlt5:(ps.take p ++ [(k,x)]).length=p+1:=by rw [List.length_append,hlt];rfl
  obtain ⟨A5,c5,hv5⟩:=Sl.len' (HO5.out.sl prC_len)
  rw [hlt5] at hv5
  subst hv5
  have HM5:=Lib.hid (blk_keep HM1.out HB5.out)
  have H5:=Lib.hid (H1.out.below HB5.out)
  clear m0 m2
  have m0:=blk_cell HM5.out 0
  have m2:=blk_lt HM5.out
  have m3:=blk_frozen HM5.out
  cases q
  ·go_wp2_with (at_builtin;refine Hid.out ?_)
   all_goals
    refine Lib.hid ?_
    refine wpList_append_sl (base:=w1.heap.size) rfl rfl elPr rfl rfl HO5.out (H5.out.dropP (i:=p) _ (by omega) _ (by omega) _) (by simp [maxLen] <;> omega) (by simp <;> omega) (by have:=HB5.out.size;simp;omega) ?_
    intro v7 w7 ho hg hat
    have HO7:=Lib.hid (show Own prC 2 62 w1.heap.size w7 v7 (insP ps k x) by rw [HIN.out];exact ho)
    have HB7:=Lib.hid (show Below w1.heap.size w1 w7 from below_app HB5.out hg (by have:=HB5.out.size;omega) (fun j hj=>(HO5.out.lt j hj).1))
    clear ho hg hat
    obtain ⟨A7,c7,rfl⟩:=Sl.len' (HO7.out.sl prC_len)
    have HM7:=Lib.hid (blk_keep HM1.out HB7.out)
    clear m0 m2 m3
    have m0:=blk_cell HM7.out 0
    have m2:=blk_lt HM7.out
    have m3:=blk_frozen HM7.out
    go_wp2_with fail
    refine bodyPost_end (results_none rfl _ _ _) rfl ?_
    have hset:=(Ch.refl (fun j=>j=g) w7).setCell (p:=⟨g,0,none⟩) rfl (.slice A7 (insP ps k x).length c7)
    exact ⟨⟨_,rfl⟩,⟨_,set1 HM7.out _,(HO7.out.ch hset fun j hj e=>by have:=(HO7.out.lt j hj).1;omega).base hsz⟩,(Ch.of_below HB1.out).trans ((Ch.of_below HB7.out).trans hset)⟩
  ·have hpl:=HIB.out rfl
   have hp3:IntKind.i64.wrap ((p:Int)+1)=((p+1:Nat):Int):=by rw [IntWalk.i64_in _ (by omega)];rfl
   have hp4:((p+1:Nat):Int)≤(c:Int):=by omega
   have hp5:((p+1:Nat):Int)≤(ps.length:Int):=by omega
   go_wp2_with (at_builtin;refine Hid.out ?_)
   all_goals
    refine Lib.hid ?_
    refine wpList_append_sl (base:=w1.heap.size) rfl rfl elPr rfl rfl HO5.out (H5.out.dropP (i:=p+1) _ (by omega) _ (by omega) _) (by simp [maxLen] <;> omega) (by simp <;> omega) (by have:=HB5.out.size;simp;omega) ?_
    intro v7 w7 ho hg hat
    have HO7:=Lib.hid (show Own prC 2 62 w1.heap.size w7 v7 (insP ps k x) by rw [HIN.out];exact ho)
    have HB7:=Lib.hid (show Below w1.heap.size w1 w7 from below_app HB5.out hg (by have:=HB5.out.size;omega) (fun j hj=>(HO5.out.lt j hj).1))
    clear ho hg hat
    obtain ⟨A7,c7,rfl⟩:=Sl.len' (HO7.out.sl prC_len)
    have HM7:=Lib.hid (blk_keep HM1.out HB7.out)
    clear m0 m2 m3
    have m0:=blk_cell HM7.out 0
    have m2:=blk_lt HM7.out
    have m3:=blk_frozen HM7.out
    go_wp2_with fail
    refine bodyPost_end (results_none rfl _ _ _) rfl ?_
    have hset:=(Ch.refl (fun j=>j=g) w7).setCell (p:=⟨g,0,none⟩) rfl (.slice A7 (insP ps k x).length c7)
    exact ⟨⟨_,rfl⟩,⟨_,set1 HM7.out _,(HO7.out.ch hset fun j hj e=>by have:=(HO7.out.lt j hj).1;omega).base hsz⟩,(Ch.of_below HB1.out).trans ((Ch.of_below HB7.out).trans hset)⟩
end Go.Proofs.YtknioodagnjchaaGreatDoor
namespace Go.Proofs.YtknioodagnjchaaGreatDoor
open Go.RowKit
theorem same16_any (xs ys:List Pr) (v u:Value) (w:World) (hx:Sl prC 2 w v xs) (hy:Sl prC 2 w u ys) (hl:xs.length≤1000000):
  Calls Tryz.prog 41 #[v,u] w fun e w'=>e=.returned (.bool (decide (xs=ys)))∧Below w.heap.size w w':=by
 obtain ⟨A,c,rfl⟩:=Sl.len' hx
 obtain ⟨A2,c2,rfl⟩:=Sl.len' hy
 have HX:=Lib.hid hx
 have HY:=Lib.hid hy
 clear hx hy
 go_enter Tryz.func41,Tryz.ntmps41
 by_cases hn:xs.length=ys.length
 ·have hn1:((xs.length:Int) == (ys.length:Int))=true:=by rw [hn];simp
  have HN:=Lib.hid hn
  have hn2:(xs.length:Int)=(ys.length:Int):=by omega
  clear hn
  go_wp2_with fail
  go_loopw [5] (fun s5 wr=>∃ i:Nat,s5=.int .i64 i∧i≤xs.length∧(xs=ys↔xs.drop i=ys.drop i)∧Below w.heap.size w wr) (fun s5 _=>xs.length - (intOf s5).toNat)
  case atStart=>exact ⟨0,rfl,Nat.zero_le _,Iff.rfl,Below.refl _ _⟩
  case round=>
   obtain ⟨i,rfl,hi,he,hb⟩:=hrel
   have HE:=Lib.hid he
   have HB:=Lib.hid hb
   have hbs:=hb.size
   clear he hb
   by_cases hlt:i<xs.length
   ·have hlt2:i<ys.length:=by have:=HN.out;omega
    obtain ⟨b,off,rfl,hbl,c0,c1⟩:=(HX.out.keep HB.out).pair2 hlt
    obtain ⟨b2,off2,rfl,hbl2,d0,d1⟩:=(HY.out.keep HB.out).pair2 hlt2
    have hi0:(0:Int)≤(i:Int):=by omega
    have hi1:(i:Int)<(xs.length:Int):=by omega
    have hi3:(i:Int)<(ys.length:Int):=by omega
    have hi2:IntKind.i64.wrap ((i:Int)+1)=((i+1:Nat):Int):=by rw [IntWalk.i64_in _ (by omega)];rfl
    have HD:=Lib.hid (show (xs=ys↔xs[i]=ys[i]∧xs.drop (i+1)=ys.drop (i+1)) by
     rw [HE.out,List.drop_eq_getElem_cons hlt,List.drop_eq_getElem_cons hlt2,List.cons.injEq])
    clear HE
    generalize xs[i]=p at *
    generalize ys[i]=q at *
    obtain ⟨pk,pv⟩:=p
    obtain ⟨qk,qv⟩:=q
    dsimp only at c0 c1 d0 d1
    have hk:=key_eq (a:=pk) (b:=qk)
    have hv:=key_eq (a:=pv) (b:=qv)
    by_cases h1:pk=qk
    ·rw [decide_eq_true h1] at hk
     by_cases h2:pv=qv
     ·rw [decide_eq_true h2] at hv
      have HE2:=Lib.hid (show (xs=ys↔xs.drop (i+1)=ys.drop (i+1)) by rw [HD.out,h1,h2];simp)
      clear h1 h2 hn1 hn2
      go_wp2_with fail
      go_region
      all_goals
       go_wp2_with fail
       go_roundw
       case rel=>exact ⟨i+1,rfl,hlt,HE2.out,HB.out.trans (by go_grown)⟩
       case measure=>simp [intOf];omega
     ·rw [decide_eq_false h2] at hv
      have HV:=Lib.hid (show decide (xs=ys)=false from decide_eq_false fun e=>h2 (Prod.mk.inj (HD.out.1 e).1).2)
      clear h1 h2 hn1 hn2
      go_wp2_with fail
      go_region
      all_goals
       go_wp2_with fail
       go_ret
       exact ⟨by rw [HV.out];rfl,HB.out.trans (by go_grown)⟩
    ·rw [decide_eq_false h1] at hk
     have HV:=Lib.hid (show decide (xs=ys)=false from decide_eq_false fun e=>h1 (Prod.mk.inj (HD.out.1 e).1).1)
     clear h1 hn1 hn2
     go_wp2_with fail
     go_region
     all_goals
      go_wp2_with fail
      go_ret
      exact ⟨by rw [HV.out];rfl,HB.out.trans (by go_grown)⟩
   ·have HV:=Lib.hid (show decide (xs=ys)=true from decide_eq_true (HE.out.2 (by rw [List.drop_eq_nil_of_le (by omega),List.drop_eq_nil_of_le (by have:=HN.out;omega)])))
    obtain rfl:i=xs.length:=by omega
    clear hlt hi HE hn1 hn2
    go_wp2_with fail
    go_ret
    exact ⟨by rw [HV.out];rfl,HB.out⟩
 ·have HV:=Lib.hid (show decide (xs=ys)=false from decide_eq_false fun e=>hn (by rw [e]))
  have hn2:¬ (xs.length:Int)=(ys.length:Int):=by omega
  have hn1:((xs.length:Int) == (ys.length:Int))=false:=beq_eq_false_iff_ne.2 hn2
  have hn3:((xs.length:Int) != (ys.length:Int))=true:=bne_iff_ne.2 hn2
  clear hn
  go_wp2_with fail
  go_ret
  exact ⟨by rw [HV.out];rfl,Below.refl _ _⟩
end Go.Proofs.YtknioodagnjchaaGreatDoor
