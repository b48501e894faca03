/- cahierref17: From, To over a list of pairs. cahierref16.Map: place. cahierref16.Map: what Put makes of a list of rising keys is putP. cahierref16.Map.Put. cahierref16.Same. -/
import Derived.Test.YtknioodagnjchaaGreatDoorUWa
import Derived.Test.YtknioodagnjchaaGreatDoorUPl
import Derived.Test.YtknioodagnjchaaGreatDoorUTSl
set_option maxRecDepth 100000
set_option maxHeartbeats 4000000
namespace Go.Proofs.YtknioodagnjchaaGreatDoor
open Go.Lib (hid)
open Go.RowKit
def kq (p:Pr):List Value:=[.string (ap p.1),.string (ap p.2)]
theorem cj (p:Pr):(kq p).length=2:=rfl
theorem Sl.pair2 {w:World} {A:Option Addr} {n c k:Nat} {xs:List Pr} (h:Sl kq 2 w (.slice A n c) xs) (hk:k<xs.length):∃ b off,A=some ⟨b,off,none⟩∧b<w.heap.size∧w.cell? ⟨b,off+k * 2,none⟩=some (.string (ap xs[k].1))∧w.cell? ⟨b,off+k * 2+1,none⟩=some (.string (ap xs[k].2)):=by
 obtain ⟨A',c',he,h⟩:=h;injection he with e1 e2 e3
 subst e1 e2;obtain ⟨b,off,rfl,hlt,hc⟩:=h (by rintro rfl;simp at hk);have:=hc k xs[k] (List.getElem?_eq_getElem hk);exact ⟨b,off,rfl,hlt,this 0 _ rfl,this 1 _ rfl⟩
theorem jR {a b:By}:((ap a).toList == (ap b).toList)=decide (a=b):=by rw [aL,aL];by_cases h:a=b <;> simp [h]
def gH (ps:List Pr) (k:By):Nat:=(ps.takeWhile fun p=>aU p.1 k).length
def om (ps:List Pr) (k:By):Bool:=match ps[gH ps k]? with
 | some p=>decide (p.1=k)
 | none=>false
theorem np {p:Pr} {ps:List Pr} {k:By} (h:aU p.1 k=true):gH (p :: ps) k=gH ps k+1:=by unfold gH;rw [List.takeWhile_cons,if_pos h];rfl
theorem pD {p:Pr} {ps:List Pr} {k:By} (h:aU p.1 k=false):gH (p :: ps) k=0:=by unfold gH;rw [List.takeWhile_cons,if_neg (by rw [h];simp)];rfl
theorem pE {ps:List Pr} {k:By} {i:Nat} (h:gH ps k=i) (hi:i<ps.length):om ps k=decide (ps[i].1=k):=by unfold om;rw [h,List.getElem?_eq_getElem hi]
theorem qx {ps:List Pr} {k:By} (h:gH ps k=ps.length):om ps k=false:=by unfold om;rw [h,List.getElem?_eq_none (Nat.le_refl _)]
theorem rj (ps:List Pr) (k:By) (g:Nat) (v:Value) (w:World) (hm:w.heap[g]?=some (.cells #[v] 69 (0,0))) (h:Sl kq 2 w v ps) (hl:ps.length≤1000000):
  Calls Tryz.prog 92 #[.pointer (some ⟨g,0,none⟩),.string (ap k)] w fun e w'=>e=.returned (.tuple #[.int .i64 (gH ps k),.bool (om ps k)])∧Below w.heap.size w w':=by
 obtain ⟨A,c,rfl⟩:=Sl.len' h;have H:=hid h;have m0:w.cell? ⟨g,0,none⟩=some (.slice A ps.length c):=ae hm 0;have m1:=aj hm;clear h hm;go_enter Tryz.func92,Tryz.ntmps92;go_wp2_with fail;go_loopw [6] (fun s6 wr=>∃ i:Nat,s6=.int .i64 i∧i≤ps.length∧gH ps k=i+gH (ps.drop i) k∧wr=w) (fun s6 _=>ps.length - (intOf s6).toNat)
 case atStart=>exact ⟨0,rfl,Nat.zero_le _,by simp,rfl⟩
 case round=>
  obtain ⟨i,rfl,hi,he,rfl⟩:=hrel;have HE:=hid he;clear he;by_cases hlt:i<ps.length
  ·obtain ⟨b,off,rfl,hbl,c0,c1⟩:=H.out.pair2 hlt;have hi0:(0:Int)≤(i:Int):=by omega
   have hi1:(i:Int)<(ps.length:Int):=by omega
   have hi2:IntKind.i64.wrap ((i:Int)+1)=((i+1:Nat):Int):=by rw [IntWalk.i64_in _ (by omega)];rfl
   have HD:=hid (show gH ps k=i+gH (ps[i] :: ps.drop (i+1)) k by rw [← List.drop_eq_getElem_cons hlt];exact HE.out);have HB:=hid (fun (e:gH ps k=i)=>pE e hlt);generalize hpi:ps[i]=p at *;clear hpi HE;have heq:=jR (a:=p.1) (b:=k);have hls:Op.bytesLess (ap p.1).toList (ap k).toList=aU p.1 k:=by rw [aL,aL];rfl
   cases hk:aU p.1 k
   ·rw [hk] at hls;have hp:gH ps k=i:=by rw [HD.out,pD hk];rfl
    have HV:=hid hp;have HB2:=hid (HB.out hp);clear hp hk;by_cases hq:p.1=k
    ·rw [decide_eq_true hq] at heq;rw [decide_eq_true hq] at HB2;clear hq;go_wp2_with fail;go_region
     all_goals
      go_wp2_with fail;exact bodyPost_ret (v:=.tuple #[.int .i64 (i:Int),.bool true]) (by simp [results,Tryz.results92,go_sem]) rfl ⟨by rw [HV.out,HB2.out],by go_grown⟩
    ·rw [decide_eq_false hq] at heq;rw [decide_eq_false hq] at HB2;clear hq;go_wp2_with fail;go_region
     all_goals
      go_wp2_with fail;exact bodyPost_ret (v:=.tuple #[.int .i64 (i:Int),.bool false]) (by simp [results,Tryz.results92,go_sem]) rfl ⟨by rw [HV.out,HB2.out],by go_grown⟩
   ·rw [hk] at hls;have HE2:=hid (show gH ps k=i+1+gH (ps.drop (i+1)) k by rw [HD.out,np hk];omega);clear hk;go_wp2_with fail;go_roundw
    case rel=>exact ⟨i+1,rfl,hlt,HE2.out,by trivial⟩
    case measure=>simp [intOf];omega
  ·obtain rfl:i=ps.length:=by omega
   have hp:gH ps k=ps.length:=by rw [HE.out,List.drop_length];rfl
   have HV:=hid hp;have HB2:=hid (qx hp);clear hp HE hlt hi;go_wp2_with fail;go_region
   all_goals
    go_wp2_with fail;exact bodyPost_ret (v:=.tuple #[.int .i64 (ps.length:Int),.bool false]) (by simp [results,Tryz.results92,go_sem]) rfl ⟨by rw [HV.out,HB2.out],by go_grown⟩
def lR (ps:List Pr) (k v:By):List Pr:=ps.take (gH ps k) ++ [(k,v)] ++ ps.drop (if om ps k then gH ps k+1 else gH ps k)
theorem sy {p:Pr} {ps:List Pr} {k:By} (h:aU p.1 k=true):om (p :: ps) k=om ps k:=by unfold om;rw [np h,List.getElem?_cons_succ]
theorem mB:∀ (ps:List Pr) (k:By),ps.Pairwise (fun a b=>aU a.1 b.1=true)→ps.take (gH ps k)=lQ ps k∧ps.drop (if om ps k then gH ps k+1 else gH ps k)=ku ps k
 | [],k,_=>⟨by simp [lQ],by simp [ku]⟩
 | p :: ps,k,h=>by
   obtain ⟨h1,h2⟩:=List.pairwise_cons.1 h;obtain ⟨i1,i2⟩:=mB ps k h2;rcases gz p.1 k with hk | hk | hk
   ·rw [np hk,sy hk];constructor
    ·rw [List.take_succ_cons,i1];unfold lQ;rw [List.filter_cons,if_pos hk]
    ·have e:(p :: ps).drop (if om ps k=true then gH ps k+1+1 else gH ps k+1)=ps.drop (if om ps k=true then gH ps k+1 else gH ps k):=by split <;> rfl
     rw [e,i2];unfold ku;rw [List.filter_cons,if_neg (by rw [aG hk];simp)]
   ·have h0:gH (p :: ps) k=0:=pD (by rw [hk];exact db k);have hb:om (p :: ps) k=true:=by rw [pE h0 (by simp)];simpa using hk
    have ha:∀ q ∈ ps,aU k q.1=true:=fun q hq=>by rw [← hk];exact h1 q hq
    rw [h0,hb];constructor
    ·unfold lQ;rw [List.filter_cons,if_neg (by rw [hk,db];simp)];exact (gR fun q hq=>aG (ha q hq)).symm
    ·show ps=ku (p :: ps) k;unfold ku;rw [List.filter_cons,if_neg (by rw [hk,db];simp)];exact (ig ha).symm
   ·have h0:gH (p :: ps) k=0:=pD (aG hk);have hb:om (p :: ps) k=false:=by rw [pE h0 (by simp)];simpa using (eh hk).symm
    have ha:∀ q ∈ p :: ps,aU k q.1=true:=fun q hq=>by
     rcases List.mem_cons.1 hq with rfl | hq
     ·exact hk
     ·exact ca hk (h1 q hq)
    rw [h0,hb];exact ⟨(gR fun q hq=>aG (ha q hq)).symm,(ig ha).symm⟩
theorem qM {ps:List Pr} (k v:By) (h:ps.Pairwise (fun a b=>aU a.1 b.1=true)):lR ps k v=putP ps k v:=by obtain ⟨h1,h2⟩:=mB ps k h;unfold lR putP;rw [h1,h2,List.append_assoc];rfl
theorem pT:ElemT Tryz.prog 67 62 kq 2 32:=
 ElemT.mk' (z:=.agg #[.string ⟨#[]⟩,.string ⟨#[]⟩]) Tryz.underlying67 (by kernel_rfl) rfl (by decide) cj (fun x u hu=>by
  simp only [kq,List.mem_cons,List.not_mem_nil,or_false] at hu;rcases hu with rfl | rfl <;> rfl)
theorem Own.dropP {base:Nat} {w:World} {g n c:Nat} {xs:List Pr} (h:Own kq 2 62 base w (.slice (some ⟨g,0,none⟩) n c) xs) {i:Nat} (o:Nat) (ho:i<xs.length→o=i * 2) (m:Nat) (hm:m=xs.length - i) (c':Nat):Sl kq 2 w (.slice (some ⟨g,o,none⟩) m c') (xs.drop i):=by
 subst hm;refine ⟨some ⟨g,o,none⟩,c',by rw [List.length_drop],fun hne=>?_⟩;have hlt:i<xs.length:=by
  rcases Nat.lt_or_ge i xs.length with h | h
  ·exact h
  ·exact absurd (List.drop_of_length_le h) hne
 obtain rfl:=ho hlt;refine ⟨g,i * 2,rfl,(h.lt g rfl).2,fun k x hx j u hu=>?_⟩;rw [List.getElem?_drop] at hx;rcases (h.sl cj).cases with ⟨_,_,_,h0⟩ | ⟨b2,off2,c2,he,-,hb2,hsl⟩
 ·rw [h0] at hlt;simp at hlt
 ·injection he with e1 e2 e3
  injection e1 with e1
  injection e1 with e4 e5
  subst e4 e5;obtain ⟨hk,rfl⟩:=List.getElem?_eq_some_iff.1 hx;have:=(hsl.cells hk).2 j u hu;rw [show i * 2+k * 2+j=0+(i+k) * 2+j by omega];exact this
theorem jv {w:World} {g:Nat} {v:Value} {t:TypeId} (h:w.heap[g]?=some (.cells #[v] t (0,0))) (u:Value):(w.setCell ⟨g,0,none⟩ u).heap[g]?=some (.cells #[u] t (0,0)):=by simp [World.setCell,Array.getElem?_modify,h]
theorem sx (ps:List Pr) (k:By):gH ps k≤ps.length:=(List.takeWhile_sublist _).length_le
theorem vi {ps:List Pr} {k:By} (h:om ps k=true):gH ps k<ps.length:=by
 rcases Nat.lt_or_ge (gH ps k) ps.length with h1 | h1
 ·exact h1
 ·rw [qx (Nat.le_antisymm (sx _ _) h1)] at h;cases h
def MpIs (w:World) (g base:Nat) (ps:List Pr):Prop:=∃ v,w.heap[g]?=some (.cells #[v] 69 (0,0))∧Own kq 2 62 base w v ps
theorem iX (ps:List Pr) (k x:By) (g base:Nat) (w:World) (h:MpIs w g base ps) (hl:ps.length≤1000):
  Calls Tryz.prog 44 #[.pointer (some ⟨g,0,none⟩),.string (ap k),.string (ap x)] w fun e w'=>(∃ r,e=.returned r)∧MpIs w' g w.heap.size (lR ps k x)∧Ch (fun j=>j=g) w w':=by
 obtain ⟨v,hm,h⟩:=h;have HPL:=hid (rj ps k g v w hm (h.sl cj) (by omega));have HIN:=hid (show lR ps k x=ps.take (gH ps k) ++ [(k,x)] ++ ps.drop (if om ps k then gH ps k+1 else gH ps k) from rfl);have HIB:=hid (vi (ps:=ps) (k:=k));have hn:=sx ps k;generalize gH ps k=p at *;generalize om ps k=q at *;have HM:=hid hm;have m0:=ae hm 0;have m1:=aj hm;clear hm;rcases h.2 with ⟨rfl,h0⟩ | ⟨g2,c,cur,rfl,hbs,hg2,hnc,hmx,hcc,htk⟩
 ·obtain rfl:ps=[]:=List.eq_nil_of_length_eq_zero h0;obtain rfl:p=0:=by simpa using hn
  obtain rfl:q=false:=by
   cases q
   ·rfl
   ·exact absurd (HIB.out rfl) (by simp)
  clear h h0 hn;go_enter Tryz.func44,Tryz.ntmps44;go_wp2_with fail;refine HPL.out.mono ?_;rintro e w1 ⟨rfl,hb⟩;have HM1:=hid (ab HM.out hb);have HB1:=hid hb;have hsz:=hb.size;clear m0 hb;have m0:=ae HM1.out 0;have m2:=aj HM1.out;have HOX:=hid (show Own kq 2 62 w1.heap.size (w1.alloc (.cells #[] 62)) (.slice (some ⟨w1.heap.size,0,none⟩) 0 0) ([]:List Pr) from World.ownsRow_lit w1 #[] 0 (Nat.le_refl _) (by simp [maxLen]) (by simp));go_wp2_with (at_builtin;refine Hid.out ?_);refine hid ?_;refine aw rfl rfl pT rfl rfl HOX.out (Sl.nil (f:=kq) (size:=2)) (by simp [maxLen]) (by simp) (by simp) ?_;intro v4 w4 ho hg hat;have HO4:=hid (show Own kq 2 62 w1.heap.size w4 v4 ([]:List Pr) from ho);have HB4:=hid (show Below w1.heap.size w1 w4 from cI ((Below.refl _ w1).alloc (Nat.le_refl _) _) hg (by simp) (fun j hj=>(HOX.out.lt j hj).1));clear ho hg hat;obtain ⟨A4,c4,rfl⟩:=Sl.len' (HO4.out.sl cj);go_wp2_with (at_builtin;refine Hid.out ?_);refine hid ?_;refine aw (base:=w1.heap.size) rfl rfl pT rfl rfl (HO4.out.alloc _) (Sl.one ((k,x):Pr) (by simp) cj rfl) (by simp [maxLen]) (by simp) (by have:=HB4.out.size;simp;omega) ?_;intro v5 w5 ho hg hat;have HO5:=hid (show Own kq 2 62 w1.heap.size w5 v5 [(k,x)] from ho);have HB5:=hid (show Below w1.heap.size w1 w5 from cI (HB4.out.alloc HB4.out.size _) hg (by have:=HB4.out.size;simp;omega) (fun j hj=>(HO4.out.lt j hj).1));clear ho hg hat;have hlt5:[((k,x):Pr)].length=0+1:=rfl;obtain ⟨A5,c5,rfl⟩:=Sl.len' (HO5.out.sl cj);have HM5:=hid (ab HM1.out HB5.out);clear m0 m2;have m0:=ae HM5.out 0;have m2:=aj HM5.out;have m3:=ac HM5.out;go_wp2_with (at_builtin;refine Hid.out ?_);refine hid ?_;refine aw (base:=w1.heap.size) rfl rfl pT rfl rfl HO5.out (Sl.nil (f:=kq) (size:=2)) (by simp [maxLen] <;> omega) (by simp <;> omega) (by have:=HB5.out.size;simp;omega) ?_;intro v7 w7 ho hg hat;have HO7:=hid (show Own kq 2 62 w1.heap.size w7 v7 (lR [] k x) by rw [HIN.out];exact ho);have HB7:=hid (show Below w1.heap.size w1 w7 from cI HB5.out hg (by have:=HB5.out.size;omega) (fun j hj=>(HO5.out.lt j hj).1));clear ho hg hat;obtain ⟨A7,c7,rfl⟩:=Sl.len' (HO7.out.sl cj);have HM7:=hid (ab HM1.out HB7.out);clear m0 m2 m3;have m0:=ae HM7.out 0;have m2:=aj HM7.out;have m3:=ac HM7.out;go_wp2_with fail;refine bodyPost_end (results_none rfl _ _ _) rfl ?_;have hset:=(Ch.refl (fun j=>j=g) w7).setCell (p:=⟨g,0,none⟩) rfl (.slice A7 (lR [] k x).length c7);exact ⟨⟨_,rfl⟩,⟨_,jv HM7.out _,(HO7.out.ch hset fun j hj e=>by have:=(HO7.out.lt j hj).1;omega).base hsz⟩,(Ch.of_below HB1.out).trans ((Ch.of_below HB7.out).trans hset)⟩
 ·have H:=hid h;have hg2l:=aj hg2;have f2:=ac hg2;clear h hg2 hmx hcc htk hbs;go_enter Tryz.func44,Tryz.ntmps44;go_wp2_with fail;refine HPL.out.mono ?_;rintro e w1 ⟨rfl,hb⟩;have HM1:=hid (ab HM.out hb);have H1:=hid (H.out.below hb);have HB1:=hid hb;have hsz:=hb.size;clear m0 hb;have m0:=ae HM1.out 0;have m2:=aj HM1.out;have hp0:(p:Int)≤(c:Int):=by omega
  have hp1:(0:Int)≤(p:Int):=by omega
  have hp2:(p:Int)≤(ps.length:Int):=by omega
  have HOX:=hid (show Own kq 2 62 w1.heap.size (w1.alloc (.cells #[] 62)) (.slice (some ⟨w1.heap.size,0,none⟩) 0 0) ([]:List Pr) from World.ownsRow_lit w1 #[] 0 (Nat.le_refl _) (by simp [maxLen]) (by simp));go_wp2_with (at_builtin;refine Hid.out ?_);refine hid ?_;have hlt:(ps.take p).length=p:=by rw [List.length_take];omega
  refine aw rfl rfl pT rfl rfl HOX.out (((H1.out.take' cj hn).sl cj).alloc _) (by rw [hlt];simp [maxLen];omega) (by rw [hlt];simp;omega) (by simp) ?_;intro v4 w4 ho hg hat;have HO4:=hid (show Own kq 2 62 w1.heap.size w4 v4 (ps.take p) from ho);have HB4:=hid (show Below w1.heap.size w1 w4 from cI ((Below.refl _ w1).alloc (Nat.le_refl _) _) hg (by simp) (fun j hj=>(HOX.out.lt j hj).1));clear ho hg hat;obtain ⟨A4,c4,hv4⟩:=Sl.len' (HO4.out.sl cj);rw [hlt] at hv4;subst hv4;go_wp2_with (at_builtin;refine Hid.out ?_);refine hid ?_;refine aw (base:=w1.heap.size) rfl rfl pT rfl rfl (HO4.out.alloc _) (Sl.one ((k,x):Pr) (by simp) cj rfl) (by rw [hlt];simp [maxLen];omega) (by rw [hlt];simp;omega) (by have:=HB4.out.size;simp;omega) ?_;intro v5 w5 ho hg hat;have HO5:=hid (show Own kq 2 62 w1.heap.size w5 v5 (ps.take p ++ [(k,x)]) from ho);have HB5:=hid (show Below w1.heap.size w1 w5 from cI (HB4.out.alloc HB4.out.size _) hg (by have:=HB4.out.size;simp;omega) (fun j hj=>(HO4.out.lt j hj).1));clear ho hg hat;have hlt5:(ps.take p ++ [(k,x)]).length=p+1:=by rw [List.length_append,hlt];rfl
  obtain ⟨A5,c5,hv5⟩:=Sl.len' (HO5.out.sl cj);rw [hlt5] at hv5;subst hv5;have HM5:=hid (ab HM1.out HB5.out);have H5:=hid (H1.out.below HB5.out);clear m0 m2;have m0:=ae HM5.out 0;have m2:=aj HM5.out;have m3:=ac HM5.out;cases q
  ·go_wp2_with (at_builtin;refine Hid.out ?_)
   all_goals
    refine hid ?_;refine aw (base:=w1.heap.size) rfl rfl pT rfl rfl HO5.out (H5.out.dropP (i:=p) _ (by omega) _ (by omega) _) (by simp [maxLen] <;> omega) (by simp <;> omega) (by have:=HB5.out.size;simp;omega) ?_;intro v7 w7 ho hg hat;have HO7:=hid (show Own kq 2 62 w1.heap.size w7 v7 (lR ps k x) by rw [HIN.out];exact ho);have HB7:=hid (show Below w1.heap.size w1 w7 from cI HB5.out hg (by have:=HB5.out.size;omega) (fun j hj=>(HO5.out.lt j hj).1));clear ho hg hat;obtain ⟨A7,c7,rfl⟩:=Sl.len' (HO7.out.sl cj);have HM7:=hid (ab HM1.out HB7.out);clear m0 m2 m3;have m0:=ae HM7.out 0;have m2:=aj HM7.out;have m3:=ac HM7.out;go_wp2_with fail;refine bodyPost_end (results_none rfl _ _ _) rfl ?_;have hset:=(Ch.refl (fun j=>j=g) w7).setCell (p:=⟨g,0,none⟩) rfl (.slice A7 (lR ps k x).length c7);exact ⟨⟨_,rfl⟩,⟨_,jv HM7.out _,(HO7.out.ch hset fun j hj e=>by have:=(HO7.out.lt j hj).1;omega).base hsz⟩,(Ch.of_below HB1.out).trans ((Ch.of_below HB7.out).trans hset)⟩
  ·have hpl:=HIB.out rfl;have hp3:IntKind.i64.wrap ((p:Int)+1)=((p+1:Nat):Int):=by rw [IntWalk.i64_in _ (by omega)];rfl
   have hp4:((p+1:Nat):Int)≤(c:Int):=by omega
   have hp5:((p+1:Nat):Int)≤(ps.length:Int):=by omega
   go_wp2_with (at_builtin;refine Hid.out ?_)
   all_goals
    refine hid ?_;refine aw (base:=w1.heap.size) rfl rfl pT rfl rfl HO5.out (H5.out.dropP (i:=p+1) _ (by omega) _ (by omega) _) (by simp [maxLen] <;> omega) (by simp <;> omega) (by have:=HB5.out.size;simp;omega) ?_;intro v7 w7 ho hg hat;have HO7:=hid (show Own kq 2 62 w1.heap.size w7 v7 (lR ps k x) by rw [HIN.out];exact ho);have HB7:=hid (show Below w1.heap.size w1 w7 from cI HB5.out hg (by have:=HB5.out.size;omega) (fun j hj=>(HO5.out.lt j hj).1));clear ho hg hat;obtain ⟨A7,c7,rfl⟩:=Sl.len' (HO7.out.sl cj);have HM7:=hid (ab HM1.out HB7.out);clear m0 m2 m3;have m0:=ae HM7.out 0;have m2:=aj HM7.out;have m3:=ac HM7.out;go_wp2_with fail;refine bodyPost_end (results_none rfl _ _ _) rfl ?_;have hset:=(Ch.refl (fun j=>j=g) w7).setCell (p:=⟨g,0,none⟩) rfl (.slice A7 (lR ps k x).length c7);exact ⟨⟨_,rfl⟩,⟨_,jv HM7.out _,(HO7.out.ch hset fun j hj e=>by have:=(HO7.out.lt j hj).1;omega).base hsz⟩,(Ch.of_below HB1.out).trans ((Ch.of_below HB7.out).trans hset)⟩
end Go.Proofs.YtknioodagnjchaaGreatDoor
