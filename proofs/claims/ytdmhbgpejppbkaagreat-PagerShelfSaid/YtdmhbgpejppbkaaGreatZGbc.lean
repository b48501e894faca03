/- spare.Take over a pager's inner pages. What spare.Give comes to, plain. -/
import Derived.Test.YtdmhbgpejppbkaaGreatZGba
import Derived.Test.YtdmhbgpejppbkaaGreatZGbb
import Derived.Deep.RegionWith
set_option maxRecDepth 100000
set_option maxHeartbeats 2000000
namespace Go.Proofs.YtdmhbgpejppbkaaGreat
open Go.Lib (hid)
open Go.RowKit Go.Maps
def Lc (w:World) (L:PgL) (P:Pgr) (B:Int→By) (N:Nat) (X:Nat→Prop) (w1 w2:World):Prop:=In w L P B N (fun k=>X k∨k=w1.heap.size∨k=w1.heap.size+1) w2∧Ch (fun k=>¬ X k) w1 w2
section
variable {w w1 w2 w3:World} {L:PgL} {P:Pgr} {B B':Int→By} {N:Nat} {X:Nat→Prop}
theorem Lc.start (h:In w L P B N X w1) (a b:Obj):Lc w L P B N X w1 ((w1.alloc a).alloc b):=
 ⟨((h.alloc a).alloc b).sub fun k hk=>by
   rcases hk with hk | hk | hk
   ·exact .inl (.inl hk)
   ·exact .inl (.inr hk)
   ·exact .inr (by rw [hk];simp),(Ch.of_below ((Below.refl w1.heap.size w1).alloc (Nat.le_refl _) a)).trans (Ch.of_below ((Below.refl (w1.alloc a).heap.size (w1.alloc a)).alloc (Nat.le_refl _) b))⟩
theorem Lc.set (h:Lc w L P B N X w1 w2) {p:Addr} (hp:p.block=w1.heap.size∨p.block=w1.heap.size+1) (u:Value):Lc w L P B N X w1 (w2.setCell p u):=
 ⟨h.1.set (.inr hp) u,h.2.then ((Ch.refl (fun k=>k=p.block) w2).setCell (p:=p) rfl u) fun k e=>.inr (by omega)⟩
theorem Lc.post (h:Lc w L P B N X w1 w2) (hb:Below w2.heap.size w2 w3):Lc w L P B N X w1 w3:=⟨h.1.post hb,h.2.trans (Ch.of_below hb)⟩
theorem Lc.call (h:Lc w L P B N X w1 w2) (hi:In w L P B' N (fun k=>X k∨k=w1.heap.size∨k=w1.heap.size+1) w3) (hc:Ch (fun k=>¬ (X k∨k=w1.heap.size∨k=w1.heap.size+1)) w2 w3):Lc w L P B' N X w1 w3:=
 ⟨hi,h.2.trans (hc.mono fun _ _ e hx=>e (.inl hx))⟩
theorem Lc.fin (h:Lc w L P B N X w1 w2) {h0:Hd} (hr:w2.heap[w1.heap.size+1]?=some (bn h0)) (hd:Hd):
  (cB w2 (w1.heap.size+1) hd).heap[w1.heap.size+1]?=some (bn hd)∧In w L P B N X (cB w2 (w1.heap.size+1) hd)∧Ch (fun k=>¬ X k) w1 (cB w2 (w1.heap.size+1) hd):=
 have hc:=aZ (Ch.refl (fun j=>j=w1.heap.size+1) w2) rfl hd
 ⟨bU hr hd,(h.1.ch hc fun k e=>.inr (.inr e)).sub fun k hk=>.inl hk,h.2.then hc fun k e=>.inr (by omega)⟩
end
theorem nC (h:Hd) (w1:World) {w:World} {L:PgL} {P:Pgr} {B:Int→By} {N:Nat} {X:Nat→Prop} (hi:In w L P B N X w1) (hl:∀ n,(B n).length=232) (hk:h.Ok) (htr:h.spare≠0→1≤h.trunk∧h.trunk<N):
  Calls Tryz.prog 88 #[.agg #[.int .i64 h.mode,.int .i64 h.pages,.int .i64 h.trunk,.int .i64 h.spare,.int .i64 h.root,.int .u64 h.change],kC L.gp] w1
   fun e w'=>e=.returned (.tuple #[.int .i64 (am h B).n,(am h B).h.val,.int .i64 (am h B).e])∧In w L P (am h B).B N X w'∧Ch (fun k=>¬ X k) w1 w':=by
 have HI:=hid hi;have hXl:∀ k,X k→k<w1.heap.size:=fun k hk=>hi.lt hk
 have HXL:=hid hXl;clear hi hXl;obtain ⟨hm,hp,ht,hs,hr,hc⟩:=h;obtain ⟨k1,k2,k3,k4,k5,k6⟩:=hk;simp only at k1 k2 k3 k4 k5 k6 htr;obtain ⟨q,rfl⟩:∃ q:Nat,ht=q:=⟨ht.toNat,by omega⟩;unfold kC bT au;go_enter Tryz.func88,Tryz.ntmps88;go_upto_region 1 with fail
 have HX1:=hid (aj (ah (w0:=w1) (g:=w1.heap.size) (o:=bn ⟨hm,hp,(q:Int),hs,hr,hc⟩) rfl) (bn Hd.zero));have HR1:=hid (ah (w0:=w1.alloc (bn ⟨hm,hp,(q:Int),hs,hr,hc⟩)) (g:=w1.heap.size+1) (o:=bn Hd.zero) (by simp));have HL1:=hid (Lc.start HI.out (bn ⟨hm,hp,(q:Int),hs,hr,hc⟩) (bn Hd.zero));generalize hw1:(w1.alloc (.cells #[.int .i64 hm,.int .i64 hp,.int .i64 (q:Int),.int .i64 hs,.int .i64 hr,.int .u64 hc] 38)).alloc (.cells #[.int .i64 0,.int .i64 0,.int .i64 0,.int .i64 0,.int .i64 0,.int .u64 0] 38)=v1 at *;have hw2:(w1.alloc (bn ⟨hm,hp,(q:Int),hs,hr,hc⟩)).alloc (bn Hd.zero)=v1:=hw1;rw [hw2] at HX1 HR1 HL1;clear hw1 hw2;obtain ⟨a0,a1,a2,a3,a4,a5,a6⟩:=ag HX1.out;obtain ⟨b0,b1,b2,b3,b4,b5⟩:=ao HX1.out;obtain ⟨c0,c1,c2,c3,c4,c5,c6⟩:=ag HR1.out;obtain ⟨d0,d1,d2,d3,d4,d5⟩:=ao HR1.out;simp only [Hd.zero] at a0 a1 a2 a3 a4 a5 c0 c1 c2 c3 c4 c5;by_cases h0:hs=0
 ·subst h0;by_cases hp4:4096≤hp
  ·have HT:=hid (show am ⟨hm,hp,(q:Int),0,hr,hc⟩ B=aM B 22 by simp [am,hp4]);go_wp2_with fail;have HF:=hid (HL1.out.fin HR1.out ⟨0,0,0,0,0,0⟩);obtain ⟨q0,q1,q2,q3,q4,q5,q6⟩:=ag HF.out.1;generalize hwf:cB (v1) (w1.heap.size+1) ⟨0,0,0,0,0,0⟩=wf at *;have hwf2:((((((v1).setCell ⟨w1.heap.size+1,0,none⟩ (.int .i64 (0))).setCell ⟨w1.heap.size+1,1,none⟩ (.int .i64 (0))).setCell ⟨w1.heap.size+1,2,none⟩ (.int .i64 (0))).setCell ⟨w1.heap.size+1,3,none⟩ (.int .i64 (0))).setCell ⟨w1.heap.size+1,4,none⟩ (.int .i64 (0))).setCell ⟨w1.heap.size+1,5,none⟩ (.int .u64 (0))=wf:=hwf;rw [hwf2];exact bodyPost_ret (v:=.tuple #[.int .i64 (0),.agg #[.int .i64 (0),.int .i64 (0),.int .i64 (0),.int .i64 (0),.int .i64 (0),.int .u64 (0)],.int .i64 (22)]) (by simp [results,Tryz.results88,go_sem,q0,q1,q2,q3,q4,q5]) rfl ⟨by rw [HT.out];rfl,(by rw [HT.out];first | exact HF.out.2.1 | exact HF.out.2.1.drew | exact HF.out.2.1.drew.drew),(by first | exact HF.out.2.2 | exact HF.out.2.2.drew | exact HF.out.2.2.drew.drew)⟩
  ·have HT:=hid (show am ⟨hm,hp,(q:Int),0,hr,hc⟩ B=⟨hp,⟨hm,hp+1,(q:Int),0,hr,hc⟩,0,B⟩ by simp [am,hp4]);have hp5:hp<4096:=by omega
   go_wp2_with fail;go_region
   all_goals
    go_wp2_with fail;have HF:=hid ((HL1.out.set (p:=⟨w1.heap.size,1,none⟩) (.inl rfl) (.int .i64 (hp+1))).fin (aX HR1.out (a:=⟨w1.heap.size,1,none⟩) (by simp) (.int .i64 (hp+1))) ⟨hm,hp+1,(q:Int),0,hr,hc⟩);obtain ⟨q0,q1,q2,q3,q4,q5,q6⟩:=ag HF.out.1;generalize hwf:cB (v1.setCell ⟨w1.heap.size,1,none⟩ (.int .i64 (hp+1))) (w1.heap.size+1) ⟨hm,hp+1,(q:Int),0,hr,hc⟩=wf at *;have hwf2:((((((v1.setCell ⟨w1.heap.size,1,none⟩ (.int .i64 (hp+1))).setCell ⟨w1.heap.size+1,0,none⟩ (.int .i64 (hm))).setCell ⟨w1.heap.size+1,1,none⟩ (.int .i64 (hp+1))).setCell ⟨w1.heap.size+1,2,none⟩ (.int .i64 ((q:Int)))).setCell ⟨w1.heap.size+1,3,none⟩ (.int .i64 (0))).setCell ⟨w1.heap.size+1,4,none⟩ (.int .i64 (hr))).setCell ⟨w1.heap.size+1,5,none⟩ (.int .u64 (hc))=wf:=hwf;rw [hwf2];exact bodyPost_ret (v:=.tuple #[.int .i64 (hp),.agg #[.int .i64 (hm),.int .i64 (hp+1),.int .i64 ((q:Int)),.int .i64 (0),.int .i64 (hr),.int .u64 (hc)],.int .i64 (0)]) (by simp [results,Tryz.results88,go_sem,q0,q1,q2,q3,q4,q5]) rfl ⟨by rw [HT.out];rfl,(by rw [HT.out];first | exact HF.out.2.1 | exact HF.out.2.1.drew | exact HF.out.2.1.drew.drew),(by first | exact HF.out.2.2 | exact HF.out.2.2.drew | exact HF.out.2.2.drew.drew)⟩
 ·have h01:(hs == 0)=false:=by simpa using h0
  have hs2:¬ hs=0:=h0;go_wp2_with fail;have htr2:=htr hs2;have HTK0:=hid (gZ q v1 HL1.out.1 (by omega) (by omega) (hl (q:Int)));have HTR0:=hid htr2;unfold kC bT au at HTK0;clear htr htr2;refine HTK0.out.mono ?_;obtain ⟨⟨tn,tl⟩,hT⟩:∃ T,bf (B (q:Int))=T:=⟨_,rfl⟩;obtain ⟨te,hte⟩:∃ te,cL (B (q:Int))=te:=⟨_,rfl⟩;rw [hT,hte];have HTT:=hid hT;have HTE:=hid hte;clear hT hte;rintro e w2 ⟨lv,rfl,ho,hi2,hc2⟩;simp only at ho;have hgb:v1.heap.size≤w2.heap.size:=hc2.size;have HL2:=hid (HL1.out.call (hi2.sub fun k hk=>.inl hk) hc2);obtain ⟨A,c,rfl⟩:=Sl.len' (ho.sl bt);have HX3:=hid (aj (hc2.keep HX1.out (fun hh=>hh (.inr (.inl rfl)))) (.cells #[.int .i64 tn,.slice A tl.length c] 164));have HR3:=hid (aj (hc2.keep HR1.out (fun hh=>hh (.inr (.inr rfl)))) (.cells #[.int .i64 tn,.slice A tl.length c] 164));have HL3:=hid (HL2.out.post ((Below.refl _ w2).alloc (Nat.le_refl _) (.cells #[.int .i64 tn,.slice A tl.length c] 164)));have HO3:=hid (ho.alloc (.cells #[.int .i64 tn,.slice A tl.length c] 164));have HG3:=hid (ah (w0:=w2) (g:=w2.heap.size) (o:=.cells #[.int .i64 tn,.slice A tl.length c] 164) rfl);have hg2:w1.heap.size+1<w2.heap.size:=by have:=af HR1.out;omega
  clear hi2 hc2 ho a0 a1 a2 a3 a4 a5 b0 b1 b2 b3 b4 b5 c0 c1 c2 c3 c4 c5 d0 d1 d2 d3 d4 d5;go_upto_region 7 with fail
  generalize w2.alloc (.cells #[.int .i64 tn,.slice A tl.length c] 164)=w3 at *;generalize w2.heap.size=g2 at *;obtain ⟨a0,a1,a2,a3,a4,a5,a7⟩:=ag HX3.out;obtain ⟨b0,b1,b2,b3,b4,b5⟩:=ao HX3.out;obtain ⟨c0,c1,c2,c3,c4,c5,c7⟩:=ag HR3.out;obtain ⟨d0,d1,d2,d3,d4,d5⟩:=ao HR3.out;obtain ⟨t0,t1,t2,t3,t4⟩:=bj HG3.out;simp only [Hd.zero] at a0 a1 a2 a3 a4 a5 c0 c1 c2 c3 c4 c5;cases hd:bZ (B (q:Int))
  ·have HT:=hid (show am ⟨hm,hp,(q:Int),hs,hr,hc⟩ B=aM B 30 by simp [am,h0,hd]);obtain rfl:te=30:=by rw [← HTE.out];simp [cL,hd]
   clear HTE;go_wp2_with fail;have HF:=hid (HL3.out.fin HR3.out ⟨0,0,0,0,0,0⟩);obtain ⟨q0,q1,q2,q3,q4,q5,q6⟩:=ag HF.out.1;generalize hwf:cB (w3) (w1.heap.size+1) ⟨0,0,0,0,0,0⟩=wf at *;have hwf2:((((((w3).setCell ⟨w1.heap.size+1,0,none⟩ (.int .i64 (0))).setCell ⟨w1.heap.size+1,1,none⟩ (.int .i64 (0))).setCell ⟨w1.heap.size+1,2,none⟩ (.int .i64 (0))).setCell ⟨w1.heap.size+1,3,none⟩ (.int .i64 (0))).setCell ⟨w1.heap.size+1,4,none⟩ (.int .i64 (0))).setCell ⟨w1.heap.size+1,5,none⟩ (.int .u64 (0))=wf:=hwf;rw [hwf2];exact bodyPost_ret (v:=.tuple #[.int .i64 (0),.agg #[.int .i64 (0),.int .i64 (0),.int .i64 (0),.int .i64 (0),.int .i64 (0),.int .u64 (0)],.int .i64 (30)]) (by simp [results,Tryz.results88,go_sem,q0,q1,q2,q3,q4,q5]) rfl ⟨by rw [HT.out];rfl,(by rw [HT.out];first | exact HF.out.2.1 | exact HF.out.2.1.drew | exact HF.out.2.1.drew.drew),(by first | exact HF.out.2.2 | exact HF.out.2.2.drew | exact HF.out.2.2.drew.drew)⟩
  ·obtain rfl:te=0:=by rw [← HTE.out];simp [cL,hd]
   have HDP:=hid (show bE (B (q:Int))=⟨tn,tl⟩ by rw [← HTT.out];simp [bf,hd]);clear HTE HTT;have HTR:=hid (show am ⟨hm,hp,(q:Int),hs,hr,hc⟩ B=if bG ⟨tn,tl⟩ hp then aM B 30 else if 0<tl.length then ⟨tl.getD (tl.length - 1) 0,⟨hm,hp,(q:Int),hs - 1,hr,hc⟩,0,aY B (q:Int) (aC (cC ⟨tn,tl.take (tl.length - 1)⟩))⟩ else if ((tn == 0) != (hs == 1)) then aM B 30 else ⟨(q:Int),⟨hm,hp,tn,hs - 1,hr,hc⟩,0,B⟩ by simp only [am,h0,hd,HDP.out];rfl);have HBD:=hid (show aT ⟨tn,tl⟩=false by have:=dg hd;rw [HDP.out] at this;exact this);by_cases h1:hp≤tn
   ·have HT:=hid (show am ⟨hm,hp,(q:Int),hs,hr,hc⟩ B=aM B 30 by rw [HTR.out,if_pos (by simp [bG,h1])]);have h1b:decide (hp≤tn)=true:=decide_eq_true h1;go_upto_region 11 with fail
    go_region
    all_goals
     go_wp2_with fail;have HF:=hid (HL3.out.fin HR3.out ⟨0,0,0,0,0,0⟩);obtain ⟨q0,q1,q2,q3,q4,q5,q6⟩:=ag HF.out.1;generalize hwf:cB (w3) (w1.heap.size+1) ⟨0,0,0,0,0,0⟩=wf at *;have hwf2:((((((w3).setCell ⟨w1.heap.size+1,0,none⟩ (.int .i64 (0))).setCell ⟨w1.heap.size+1,1,none⟩ (.int .i64 (0))).setCell ⟨w1.heap.size+1,2,none⟩ (.int .i64 (0))).setCell ⟨w1.heap.size+1,3,none⟩ (.int .i64 (0))).setCell ⟨w1.heap.size+1,4,none⟩ (.int .i64 (0))).setCell ⟨w1.heap.size+1,5,none⟩ (.int .u64 (0))=wf:=hwf;rw [hwf2];exact bodyPost_ret (v:=.tuple #[.int .i64 (0),.agg #[.int .i64 (0),.int .i64 (0),.int .i64 (0),.int .i64 (0),.int .i64 (0),.int .u64 (0)],.int .i64 (30)]) (by simp [results,Tryz.results88,go_sem,q0,q1,q2,q3,q4,q5]) rfl ⟨by rw [HT.out];rfl,(by rw [HT.out];first | exact HF.out.2.1 | exact HF.out.2.1.drew | exact HF.out.2.1.drew.drew),(by first | exact HF.out.2.2 | exact HF.out.2.2.drew | exact HF.out.2.2.drew.drew)⟩
   ·have h1b:decide (hp≤tn)=false:=decide_eq_false h1;have h1c:tn<hp:=by omega
    rcases Nat.eq_zero_or_pos tl.length with hz | hz
    ·have htl:tl=[]:=List.length_eq_zero_iff.1 hz;subst htl;rw [if_neg (by simp [bG,h1]),if_neg (by simp)] at HTR;go_upto_region 11 with fail
     go_region
     all_goals
      have hs1:(1:Int)≤hs:=by omega
      have HL4:=hid (HL3.out.set (p:=⟨w1.heap.size,2,none⟩) (.inl rfl) (.int .i64 tn));have HR4:=hid (aX HR3.out (a:=⟨w1.heap.size,2,none⟩) (by simp) (.int .i64 tn));have HL5:=hid (HL4.out.set (p:=⟨w1.heap.size,3,none⟩) (.inl rfl) (.int .i64 (hs - 1)));have HR5:=hid (aX HR4.out (a:=⟨w1.heap.size,3,none⟩) (by simp) (.int .i64 (hs - 1)));rcases Bool.eq_false_or_eq_true (tn == 0) with g1 | g1 <;> rcases Bool.eq_false_or_eq_true (hs == 1) with g3 | g3
      ·have HT:=hid (show am ⟨hm,hp,(q:Int),hs,hr,hc⟩ B=⟨(q:Int),⟨hm,hp,tn,hs - 1,hr,hc⟩,0,B⟩ by rw [HTR.out,g1,g3];simp);go_wp2_with fail;go_region
       all_goals
        go_wp2_with fail;have HF:=hid (HL5.out.fin HR5.out ⟨hm,hp,tn,hs - 1,hr,hc⟩);obtain ⟨q0,q1,q2,q3,q4,q5,q6⟩:=ag HF.out.1;generalize hwf:cB ((w3.setCell ⟨w1.heap.size,2,none⟩ (.int .i64 tn)).setCell ⟨w1.heap.size,3,none⟩ (.int .i64 (hs - 1))) (w1.heap.size+1) ⟨hm,hp,tn,hs - 1,hr,hc⟩=wf at *;have hwf2:(((((((w3.setCell ⟨w1.heap.size,2,none⟩ (.int .i64 tn)).setCell ⟨w1.heap.size,3,none⟩ (.int .i64 (hs - 1))).setCell ⟨w1.heap.size+1,0,none⟩ (.int .i64 (hm))).setCell ⟨w1.heap.size+1,1,none⟩ (.int .i64 (hp))).setCell ⟨w1.heap.size+1,2,none⟩ (.int .i64 (tn))).setCell ⟨w1.heap.size+1,3,none⟩ (.int .i64 (hs - 1))).setCell ⟨w1.heap.size+1,4,none⟩ (.int .i64 (hr))).setCell ⟨w1.heap.size+1,5,none⟩ (.int .u64 (hc))=wf:=hwf;rw [hwf2];exact bodyPost_ret (v:=.tuple #[.int .i64 ((q:Int)),.agg #[.int .i64 (hm),.int .i64 (hp),.int .i64 (tn),.int .i64 (hs - 1),.int .i64 (hr),.int .u64 (hc)],.int .i64 (0)]) (by simp [results,Tryz.results88,go_sem,q0,q1,q2,q3,q4,q5]) rfl ⟨by rw [HT.out];rfl,(by rw [HT.out];first | exact HF.out.2.1 | exact HF.out.2.1.drew | exact HF.out.2.1.drew.drew),(by first | exact HF.out.2.2 | exact HF.out.2.2.drew | exact HF.out.2.2.drew.drew)⟩
      ·have HT:=hid (show am ⟨hm,hp,(q:Int),hs,hr,hc⟩ B=aM B 30 by rw [HTR.out,g1,g3];simp);go_wp2_with fail;have HF:=hid (HL4.out.fin HR4.out ⟨0,0,0,0,0,0⟩);obtain ⟨q0,q1,q2,q3,q4,q5,q6⟩:=ag HF.out.1;generalize hwf:cB (w3.setCell ⟨w1.heap.size,2,none⟩ (.int .i64 tn)) (w1.heap.size+1) ⟨0,0,0,0,0,0⟩=wf at *;have hwf2:((((((w3.setCell ⟨w1.heap.size,2,none⟩ (.int .i64 tn)).setCell ⟨w1.heap.size+1,0,none⟩ (.int .i64 (0))).setCell ⟨w1.heap.size+1,1,none⟩ (.int .i64 (0))).setCell ⟨w1.heap.size+1,2,none⟩ (.int .i64 (0))).setCell ⟨w1.heap.size+1,3,none⟩ (.int .i64 (0))).setCell ⟨w1.heap.size+1,4,none⟩ (.int .i64 (0))).setCell ⟨w1.heap.size+1,5,none⟩ (.int .u64 (0))=wf:=hwf;rw [hwf2];exact bodyPost_ret (v:=.tuple #[.int .i64 (0),.agg #[.int .i64 (0),.int .i64 (0),.int .i64 (0),.int .i64 (0),.int .i64 (0),.int .u64 (0)],.int .i64 (30)]) (by simp [results,Tryz.results88,go_sem,q0,q1,q2,q3,q4,q5]) rfl ⟨by rw [HT.out];rfl,(by rw [HT.out];first | exact HF.out.2.1 | exact HF.out.2.1.drew | exact HF.out.2.1.drew.drew),(by first | exact HF.out.2.2 | exact HF.out.2.2.drew | exact HF.out.2.2.drew.drew)⟩
      ·have HT:=hid (show am ⟨hm,hp,(q:Int),hs,hr,hc⟩ B=aM B 30 by rw [HTR.out,g1,g3];simp);go_wp2_with fail;have HF:=hid (HL4.out.fin HR4.out ⟨0,0,0,0,0,0⟩);obtain ⟨q0,q1,q2,q3,q4,q5,q6⟩:=ag HF.out.1;generalize hwf:cB (w3.setCell ⟨w1.heap.size,2,none⟩ (.int .i64 tn)) (w1.heap.size+1) ⟨0,0,0,0,0,0⟩=wf at *;have hwf2:((((((w3.setCell ⟨w1.heap.size,2,none⟩ (.int .i64 tn)).setCell ⟨w1.heap.size+1,0,none⟩ (.int .i64 (0))).setCell ⟨w1.heap.size+1,1,none⟩ (.int .i64 (0))).setCell ⟨w1.heap.size+1,2,none⟩ (.int .i64 (0))).setCell ⟨w1.heap.size+1,3,none⟩ (.int .i64 (0))).setCell ⟨w1.heap.size+1,4,none⟩ (.int .i64 (0))).setCell ⟨w1.heap.size+1,5,none⟩ (.int .u64 (0))=wf:=hwf;rw [hwf2];exact bodyPost_ret (v:=.tuple #[.int .i64 (0),.agg #[.int .i64 (0),.int .i64 (0),.int .i64 (0),.int .i64 (0),.int .i64 (0),.int .u64 (0)],.int .i64 (30)]) (by simp [results,Tryz.results88,go_sem,q0,q1,q2,q3,q4,q5]) rfl ⟨by rw [HT.out];rfl,(by rw [HT.out];first | exact HF.out.2.1 | exact HF.out.2.1.drew | exact HF.out.2.1.drew.drew),(by first | exact HF.out.2.2 | exact HF.out.2.2.drew | exact HF.out.2.2.drew.drew)⟩
      ·have HT:=hid (show am ⟨hm,hp,(q:Int),hs,hr,hc⟩ B=⟨(q:Int),⟨hm,hp,tn,hs - 1,hr,hc⟩,0,B⟩ by rw [HTR.out,g1,g3];simp);go_wp2_with fail;go_region
       all_goals
        go_wp2_with fail;have HF:=hid (HL5.out.fin HR5.out ⟨hm,hp,tn,hs - 1,hr,hc⟩);obtain ⟨q0,q1,q2,q3,q4,q5,q6⟩:=ag HF.out.1;generalize hwf:cB ((w3.setCell ⟨w1.heap.size,2,none⟩ (.int .i64 tn)).setCell ⟨w1.heap.size,3,none⟩ (.int .i64 (hs - 1))) (w1.heap.size+1) ⟨hm,hp,tn,hs - 1,hr,hc⟩=wf at *;have hwf2:(((((((w3.setCell ⟨w1.heap.size,2,none⟩ (.int .i64 tn)).setCell ⟨w1.heap.size,3,none⟩ (.int .i64 (hs - 1))).setCell ⟨w1.heap.size+1,0,none⟩ (.int .i64 (hm))).setCell ⟨w1.heap.size+1,1,none⟩ (.int .i64 (hp))).setCell ⟨w1.heap.size+1,2,none⟩ (.int .i64 (tn))).setCell ⟨w1.heap.size+1,3,none⟩ (.int .i64 (hs - 1))).setCell ⟨w1.heap.size+1,4,none⟩ (.int .i64 (hr))).setCell ⟨w1.heap.size+1,5,none⟩ (.int .u64 (hc))=wf:=hwf;rw [hwf2];exact bodyPost_ret (v:=.tuple #[.int .i64 ((q:Int)),.agg #[.int .i64 (hm),.int .i64 (hp),.int .i64 (tn),.int .i64 (hs - 1),.int .i64 (hr),.int .u64 (hc)],.int .i64 (0)]) (by simp [results,Tryz.results88,go_sem,q0,q1,q2,q3,q4,q5]) rfl ⟨by rw [HT.out];rfl,(by rw [HT.out];first | exact HF.out.2.1 | exact HF.out.2.1.drew | exact HF.out.2.1.drew.drew),(by first | exact HF.out.2.2 | exact HF.out.2.2.drew | exact HF.out.2.2.drew.drew)⟩
    ·obtain ⟨m,hm1⟩:∃ m,tl.length=m+1:=⟨tl.length - 1,by omega⟩;have hml:m<tl.length:=by omega
     have hl1:(tl.length:Int) - 1=(m:Int):=by omega
     have hl2:(0:Int)≤(m:Int):=by omega
     have hl2b:decide ((0:Int)≤(m:Int))=true:=decide_eq_true hl2;have hl3:(m:Int)<(tl.length:Int):=by omega
     have hcap:tl.length≤c:=HO3.out.cap;have hl5:(tl.length:Int)≤50:=by have:=(eZ HBD.out).2.2.1;simp only at this;omega
     have hl6:(m:Int)≤50:=by omega
     have hl4:(m:Int)≤(c:Int):=by omega
     have HM:=hid (show tl.length - 1=m by omega);obtain ⟨b,off,c',he,hbl,hcs⟩:=(HO3.out.sl bt).at1 hml;injection he with he1 he2 he3
     subst he1 he3;have e0:w3.cell? ⟨b,off+m,none⟩=some (.int .i64 tl[m]):=by simpa using hcs 0 _ rfl
     have HTK:=hid ((HO3.out.sl bt).take m (by omega));have HLE:=hid (show (tl.take m).length≤1000000 by
      have:=(eZ HBD.out).2.2.1;simp only at this;rw [List.length_take];omega)
     have HGD:=hid (show tl.getD m 0=tl[m] by simp [hml]);have HB6:=hid (hO HBD.out m);have HPZ:=hid (show decide (0<tl.length)=true from decide_eq_true hz);rw [HM.out,HGD.out] at HTR;rw [if_pos hz] at HTR;clear hcs hm1 hz;generalize tl[m]=x at *;by_cases h2:hp≤x
     ·have HT:=hid (show am ⟨hm,hp,(q:Int),hs,hr,hc⟩ B=aM B 30 by
       rw [HTR.out,if_pos];unfold bG;simp only [h1b,HPZ.out,HM.out,HGD.out,decide_eq_true h2];rfl)
      have h2b:decide (hp≤x)=true:=decide_eq_true h2;go_upto_region 11 with fail
      go_region
      all_goals
       go_wp2_with fail;have HF:=hid (HL3.out.fin HR3.out ⟨0,0,0,0,0,0⟩);obtain ⟨q0,q1,q2,q3,q4,q5,q6⟩:=ag HF.out.1;generalize hwf:cB (w3) (w1.heap.size+1) ⟨0,0,0,0,0,0⟩=wf at *;have hwf2:((((((w3).setCell ⟨w1.heap.size+1,0,none⟩ (.int .i64 (0))).setCell ⟨w1.heap.size+1,1,none⟩ (.int .i64 (0))).setCell ⟨w1.heap.size+1,2,none⟩ (.int .i64 (0))).setCell ⟨w1.heap.size+1,3,none⟩ (.int .i64 (0))).setCell ⟨w1.heap.size+1,4,none⟩ (.int .i64 (0))).setCell ⟨w1.heap.size+1,5,none⟩ (.int .u64 (0))=wf:=hwf;rw [hwf2];exact bodyPost_ret (v:=.tuple #[.int .i64 (0),.agg #[.int .i64 (0),.int .i64 (0),.int .i64 (0),.int .i64 (0),.int .i64 (0),.int .u64 (0)],.int .i64 (30)]) (by simp [results,Tryz.results88,go_sem,q0,q1,q2,q3,q4,q5]) rfl ⟨by rw [HT.out];rfl,(by rw [HT.out];first | exact HF.out.2.1 | exact HF.out.2.1.drew | exact HF.out.2.1.drew.drew),(by first | exact HF.out.2.2 | exact HF.out.2.2.drew | exact HF.out.2.2.drew.drew)⟩
     ·have HT:=hid (show am ⟨hm,hp,(q:Int),hs,hr,hc⟩ B=⟨x,⟨hm,hp,(q:Int),hs - 1,hr,hc⟩,0,aY B (q:Int) (aC (cC ⟨tn,tl.take m⟩))⟩ by
       rw [HTR.out,if_neg];unfold bG;simp only [h1b,HPZ.out,HM.out,HGD.out,decide_eq_false h2];simp)
      have h2b:decide (hp≤x)=false:=decide_eq_false h2;have hs1:(1:Int)≤hs:=by omega
      go_upto_region 11 with fail
      go_region
      all_goals
       go_upto_region 15 with fail
       have HBW:=hid (show Below w3.heap.size w3 w3.drew.drew from ((Below.refl _ w3).drew).drew);have HLB:=hid (show cT ⟨tn,tl.take m⟩ B (q:Int)=aY B (q:Int) (aC (cC ⟨tn,tl.take m⟩))∧cW ⟨tn,tl.take m⟩=0 by unfold cT cW;rw [HB6.out];exact ⟨rfl,rfl⟩);have HLD:=hid (HL3.out.post HBW.out);have HLY:=hid (fy q ⟨tn,tl.take m⟩ (.slice (some ⟨b,off,none⟩) m c) w3.drew.drew HLD.out.1 (by have:=HTR0.out;omega) (by have:=HTR0.out;omega) (HTK.out.keep HBW.out) HLE.out);unfold kC bT au at HLY;go_cut [8] from 70 to 80 (fun sv wc=>sv=.int .i64 0∧Lc w L P (aY B (q:Int) (aC (cC ⟨tn,tl.take m⟩))) N X w1 wc∧wc.heap[w1.heap.size]?=some (bn ⟨hm,hp,(q:Int),hs,hr,hc⟩)∧wc.heap[w1.heap.size+1]?=some (bn Hd.zero))
       case first=>
        go_region_with (go_at_call 139;refine HLY.out.mono ?_;rintro e w5 ⟨rfl,hbk,hch⟩)
        all_goals
         have HM5:=hid (show Lc w L P (aY B (q:Int) (aC (cC ⟨tn,tl.take m⟩))) N X w1 w5∧w5.heap[w1.heap.size]?=some (bn ⟨hm,hp,(q:Int),hs,hr,hc⟩)∧w5.heap[w1.heap.size+1]?=some (bn Hd.zero) from
          ⟨by rw [← HLB.out.1];exact HLD.out.call hbk hch,hch.keep (show w3.drew.drew.heap[w1.heap.size]?=_ from HX3.out) (fun hh=>hh (.inr (.inl rfl))),hch.keep (show w3.drew.drew.heap[w1.heap.size+1]?=_ from HR3.out) (fun hh=>hh (.inr (.inr rfl)))⟩)
         rw [HLB.out.2];clear hbk hch;go_wp2_with fail;go_meet
         case rel=>exact ⟨rfl,HM5.out⟩
       case rest=>
        obtain ⟨rfl,hbk,hx6,hr6⟩:=hcut;have HBK:=hid hbk;have HR6:=hid hr6;have HX6:=hid hx6;clear hbk hr6 hx6 a0 a1 a2 a3 a4 a5 b0 b1 b2 b3 b4 b5 c0 c1 c2 c3 c4 c5 d0 d1 d2 d3 d4 d5 t0 t1 t2 t3 t4 e0;obtain ⟨a0,a1,a2,a3,a4,a5,a7⟩:=ag HX6.out;obtain ⟨b0,b1,b2,b3,b4,b5⟩:=ao HX6.out;obtain ⟨c0,c1,c2,c3,c4,c5,c7⟩:=ag HR6.out;obtain ⟨d0,d1,d2,d3,d4,d5⟩:=ao HR6.out;simp only [Hd.zero] at a0 a1 a2 a3 a4 a5 c0 c1 c2 c3 c4 c5;go_wp2_with fail;go_region
        all_goals
         go_wp2_with fail;have HF:=hid ((HBK.out.set (p:=⟨w1.heap.size,3,none⟩) (.inl rfl) (.int .i64 (hs - 1))).fin (aX HR6.out (a:=⟨w1.heap.size,3,none⟩) (by simp) (.int .i64 (hs - 1))) ⟨hm,hp,(q:Int),hs - 1,hr,hc⟩);obtain ⟨q0,q1,q2,q3,q4,q5,q6⟩:=ag HF.out.1;generalize hwf:cB (wc.setCell ⟨w1.heap.size,3,none⟩ (.int .i64 (hs - 1))) (w1.heap.size+1) ⟨hm,hp,(q:Int),hs - 1,hr,hc⟩=wf at *;have hwf2:((((((wc.setCell ⟨w1.heap.size,3,none⟩ (.int .i64 (hs - 1))).setCell ⟨w1.heap.size+1,0,none⟩ (.int .i64 (hm))).setCell ⟨w1.heap.size+1,1,none⟩ (.int .i64 (hp))).setCell ⟨w1.heap.size+1,2,none⟩ (.int .i64 ((q:Int)))).setCell ⟨w1.heap.size+1,3,none⟩ (.int .i64 (hs - 1))).setCell ⟨w1.heap.size+1,4,none⟩ (.int .i64 (hr))).setCell ⟨w1.heap.size+1,5,none⟩ (.int .u64 (hc))=wf:=hwf;rw [hwf2];exact bodyPost_ret (v:=.tuple #[.int .i64 (x),.agg #[.int .i64 (hm),.int .i64 (hp),.int .i64 ((q:Int)),.int .i64 (hs - 1),.int .i64 (hr),.int .u64 (hc)],.int .i64 (0)]) (by simp [results,Tryz.results88,go_sem,q0,q1,q2,q3,q4,q5]) rfl ⟨by rw [HT.out];rfl,(by rw [HT.out];first | exact HF.out.2.1 | exact HF.out.2.1.drew | exact HF.out.2.1.drew.drew),(by first | exact HF.out.2.2 | exact HF.out.2.2.drew | exact HF.out.2.2.drew.drew)⟩
end Go.Proofs.YtdmhbgpejppbkaaGreat
namespace Go.Proofs.YtdmhbgpejppbkaaGreat
structure Given where
 h:Hd
 e:Int
 B:Int→List UInt8
def bz (B:Int→List UInt8) (e:Int):Given:=⟨Hd.zero,e,B⟩
def aB (h:Hd) (B:Int→List UInt8) (n:Int):Given:=
 if n<1∨h.pages≤n then bz B 1
 else if h.pages - 1≤h.spare then bz B 30
 else if h.trunk=0 then ⟨{ h with trunk:=n,spare:=h.spare+1 },0,aY B n (aC (cC ⟨0,[]⟩))⟩
 else if bZ (B h.trunk)=false then bz B 30
 else if (bE (B h.trunk)).list.length<50 then ⟨{ h with spare:=h.spare+1 },0,aY B h.trunk (aC (cC ⟨(bE (B h.trunk)).next,(bE (B h.trunk)).list ++ [n]⟩))⟩
 else ⟨{ h with trunk:=n,spare:=h.spare+1 },0,aY B n (aC (cC ⟨h.trunk,[]⟩))⟩
end Go.Proofs.YtdmhbgpejppbkaaGreat
