/- chain: Value, List, Free. chain.Free. tree: write. tree: read, kid, size, fits. tree: Make, Get. -/
import Derived.Test.YtknioodagnjchaaGreatDoorRCa
import Derived.Test.YtknioodagnjchaaGreatDoorRPl
set_option maxRecDepth 100000
set_option maxHeartbeats 4000000
namespace Go.Proofs.YtknioodagnjchaaGreatDoor
open Go.Lib (hid)
open Go.RowKit
def ua (e:Ending):Ans (By × List Int)→Prop
 | .ok (d,_)=>e=.returned (.tuple #[.string (al d),.int .i64 0])
 | .err x=>e=.returned (.tuple #[.string ⟨#[]⟩,.int .i64 x])
def ue (base:Nat) (w:World) (e:Ending):Ans (By × List Int)→Prop
 | .ok (_,ps)=>∃ vl,e=.returned (.tuple #[vl,.int .i64 0])∧Own iC 1 3 base w vl ps
 | .err x=>e=.returned (.tuple #[.slice none 0 0,.int .i64 x])
theorem ov (c:Ce) (gs gm:Nat) (s:Sf) (w:World) (h:ShIs w gs gm s) (hl:c.data.length≤100000):
  Calls Tryz.prog 61 #[bV gs,jj c] w fun e w'=>ua e ((bb c).run s).2∧ShIs w' gs gm ((bb c).run s).1∧Ch (fun k=>k=gs∨k=gm) w w':=by
 have HA:=hid (h.ch (S:=fun _=>False) (Ch.alloc (Ch.refl _ w) (cF c)) id id);have HX:=hid (ag (w0:=w) (g:=w.heap.size) (o:=cF c) rfl);have HC:=hid (Ch.alloc (Ch.refl (fun k=>k=gs∨k=gm) w) (cF c));have hs1:w.heap.size≤(w.alloc (cF c)).heap.size:=by simp
 clear h;unfold bV jj;go_enter Tryz.func61,Tryz.ntmps61;go_upto_region 1 with fail
 generalize hw1:w.alloc (.cells #[.int .i64 c.size,.string (al c.data),.int .i64 c.page] 119)=w1 at *;have hw2:w.alloc (cF c)=w1:=hw1;rw [hw2] at HA HX HC hs1;clear hw1 hw2;obtain ⟨b0,b1,b2,b3,b4,b5,b6⟩:=aF HX.out;go_wp2_with fail;refine (mr c gs gm s w1 HA.out hl).mono ?_;rintro e w2 ⟨hp,hs,hc⟩;have HS:=hid hs;have HC2:=hid (HC.out.trans hc);clear hs hc b0 b1 b2 b3 b4 b5 b6;obtain ⟨⟨s2,a⟩,hx⟩:∃ x,(bb c).run s=x:=⟨_,rfl⟩;rw [hx] at HS hp;have HV:=hid hx;clear hx;cases a with
 | ok v=> obtain ⟨d,ps⟩:=v;obtain ⟨vl,rfl,ho⟩:=hp;have HO:=hid (Own.base ho hs1);clear ho;go_wp2_with fail;go_ret2;rw [HV.out];exact ⟨by first | exact rfl | exact ⟨_,rfl,HO.out⟩,HS.out,HC2.out⟩
 | err x=> obtain rfl:=hp;go_wp2_with fail;go_ret2;rw [HV.out];exact ⟨rfl,HS.out,HC2.out⟩
theorem lF (c:Ce) (gs gm:Nat) (s:Sf) (w:World) (h:ShIs w gs gm s) (hl:c.data.length≤100000):
  Calls Tryz.prog 123 #[bV gs,jj c] w fun e w'=>ue w.heap.size w' e ((bb c).run s).2∧ShIs w' gs gm ((bb c).run s).1∧Ch (fun k=>k=gs∨k=gm) w w':=by
 have HA:=hid (h.ch (S:=fun _=>False) (Ch.alloc (Ch.refl _ w) (cF c)) id id);have HX:=hid (ag (w0:=w) (g:=w.heap.size) (o:=cF c) rfl);have HC:=hid (Ch.alloc (Ch.refl (fun k=>k=gs∨k=gm) w) (cF c));have hs1:w.heap.size≤(w.alloc (cF c)).heap.size:=by simp
 clear h;unfold bV jj;go_enter Tryz.func123,Tryz.ntmps123;go_upto_region 1 with fail
 generalize hw1:w.alloc (.cells #[.int .i64 c.size,.string (al c.data),.int .i64 c.page] 119)=w1 at *;have hw2:w.alloc (cF c)=w1:=hw1;rw [hw2] at HA HX HC hs1;clear hw1 hw2;obtain ⟨b0,b1,b2,b3,b4,b5,b6⟩:=aF HX.out;go_wp2_with fail;refine (mr c gs gm s w1 HA.out hl).mono ?_;rintro e w2 ⟨hp,hs,hc⟩;have HS:=hid hs;have HC2:=hid (HC.out.trans hc);clear hs hc b0 b1 b2 b3 b4 b5 b6;obtain ⟨⟨s2,a⟩,hx⟩:∃ x,(bb c).run s=x:=⟨_,rfl⟩;rw [hx] at HS hp;have HV:=hid hx;clear hx;cases a with
 | ok v=> obtain ⟨d,ps⟩:=v;obtain ⟨vl,rfl,ho⟩:=hp;have HO:=hid (Own.base ho hs1);clear ho;go_wp2_with fail;go_ret2;rw [HV.out];exact ⟨by first | exact rfl | exact ⟨_,rfl,HO.out⟩,HS.out,HC2.out⟩
 | err x=> obtain rfl:=hp;go_wp2_with fail;go_ret2;rw [HV.out];exact ⟨rfl,HS.out,HC2.out⟩
def dj:Ans Unit→Value
 | .ok _=>.int .i64 0
 | .err x=>.int .i64 x
theorem lG (c:Ce) (gs gm:Nat) (s:Sf) (w:World) (h:ShIs w gs gm s) (hl:c.data.length≤100000):
  Calls Tryz.prog 69 #[bV gs,jj c] w fun e w'=>e=.returned (dj ((cf c).run s).2)∧ShIs w' gs gm ((cf c).run s).1∧Ch (fun k=>k=gs∨k=gm) w w':=by
 have HA:=hid (h.ch (S:=fun _=>False) (Ch.alloc (Ch.refl _ w) (cF c)) id id);have HX:=hid (ag (w0:=w) (g:=w.heap.size) (o:=cF c) rfl);have HC:=hid (Ch.alloc (Ch.refl (fun k=>k=gs∨k=gm) w) (cF c));have hs1:w.heap.size≤(w.alloc (cF c)).heap.size:=by simp
 have hgs:=aj h.blk;have hgm:=h.book.lt;have HNE:=hid (show ∀ x,((bb c).run s).2=.err x→x≠0 from fun x=>Pro.NZ.run _ s x (im c));clear h;unfold bV jj;go_enter Tryz.func69,Tryz.ntmps69;go_upto_region 1 with fail
 generalize hw1:w.alloc (.cells #[.int .i64 c.size,.string (al c.data),.int .i64 c.page] 119)=w1 at *;have hw2:w.alloc (cF c)=w1:=hw1;rw [hw2] at HA HX HC hs1;clear hw1 hw2;obtain ⟨b0,b1,b2,b3,b4,b5,b6⟩:=aF HX.out;go_wp2_with fail;refine (lF c gs gm s w1 HA.out hl).mono ?_;rintro e w2 ⟨hp,hs,hc⟩;have HS:=hid hs;have HC2:=hid (HC.out.trans hc);clear hs hc b0 b1 b2 b3 b4 b5 b6;obtain ⟨⟨s2,a⟩,hx⟩:∃ x,(bb c).run s=x:=⟨_,rfl⟩;rw [hx] at HS hp HNE;have HV:=hid hx;clear hx;cases a with
 | ok v=>
   obtain ⟨d,ps⟩:=v;obtain ⟨vl,rfl,ho⟩:=hp;have HO:=hid (Own.base ho hs1);obtain ⟨A,cc,rfl⟩:=Sl.len' (ho.sl aA);clear ho;have HR:=hid (show (cf c).run s=(dN ps).run s2 from af HV.out);go_wp2_with fail;go_loopw [21] (fun iv wr=>∃ (k:Nat) (s3:Sf),k≤ps.length∧iv=.int .i64 k∧(cf c).run s=(dN (ps.drop k)).run s3∧ShIs wr gs gm s3∧Own iC 1 3 w.heap.size wr (.slice A ps.length cc) ps∧Ch (fun k=>k=gs∨k=gm) w wr) (fun iv _=>ps.length - (intOf iv).toNat)
   case atStart=>exact ⟨0,s2,Nat.zero_le _,rfl,HR.out,HS.out,HO.out,HC2.out⟩
   case round=>
    obtain ⟨k,s3,hk,rfl,hr,hs,ho,hch⟩:=hrel;have HRK:=hid hr;have HSK:=hid hs;have HOK:=hid ho;have HCK:=hid hch;clear hr hs hch;have hmx:ps.length≤maxLen:=by
     rcases ho.2 with ⟨_,h0⟩ | ⟨g,cap,cur,_,_,_,h1,h2,_⟩
     ·omega
     ·omega
    unfold maxLen at hmx;by_cases hlt:k<ps.length
    ·obtain ⟨b,off,c',he,hbl,hcells⟩:=(ho.sl aA).at1 hlt;injection he with he1 he2 he3
     subst he1 he3;have e0:wr.cell? ⟨b,off+k,none⟩=some (.int .i64 ps[k]):=by simpa [iC] using hcells 0 _ rfl
     have hk0:(0:Int)≤(k:Int):=by omega
     have hk1:(k:Int)<(ps.length:Int):=by omega
     have HD:=hid (show ps.drop k=ps[k] :: ps.drop (k+1) from List.drop_eq_getElem_cons hlt);have HRF:=hid (show (cf c).run s=if co s3 ps[k]=0 then (dN (ps.drop (k+1))).run (dh s3 ps[k]) else (dh s3 ps[k],.err (co s3 ps[k])) by rw [HRK.out,HD.out];rfl);have hlw:=HOK.out.lt;clear hcells ho;generalize ps[k]=x at *;go_wp2_with fail;refine (gQ gs gm s3 x wr HSK.out).mono ?_;rintro e w5 ⟨rfl,hs5,hc5⟩;have HS5:=hid hs5;have HO5:=hid (HOK.out.ch hc5 (fun j hj e=>by have:=(hlw j hj).1;rcases e with e | e <;> omega));have HC5:=hid (HCK.out.trans hc5);clear hs5 hc5 e0;by_cases hz:co s3 x=0
     ·rw [hz];have HRZ:=hid (show (cf c).run s=(dN (ps.drop (k+1))).run (dh s3 x) by rw [HRF.out,if_pos hz]);go_wp2_with fail;go_roundw
      case rel=>exact ⟨k+1,dh s3 x,by omega,by go_num,HRZ.out,HS5.out,HO5.out,HC5.out⟩
      case measure=>simp [intOf];omega
     ·have HRZ:=hid (show (cf c).run s=(dh s3 x,.err (co s3 x)) by rw [HRF.out,if_neg hz]);generalize co s3 x=ee at *;have hz1:(ee == 0)=false:=by simpa using hz
      go_wp2_with fail;go_ret;rw [HRZ.out];exact ⟨rfl,HS5.out,HC5.out⟩
    ·have HRZ:=hid (show (cf c).run s=(s3,.ok ()) by rw [HRK.out,List.drop_eq_nil_of_le (by omega)];rfl);have hk1:(ps.length:Int)≤(k:Int):=by omega
     clear ho;go_wp2_with fail;go_ret;rw [HRZ.out];exact ⟨rfl,HSK.out,HCK.out⟩
 | err x=>
   obtain rfl:=hp;have hx0:¬ x=0:=HNE.out x rfl;have hx1:(x == 0)=false:=by simpa using hx0
   have HR:=hid (show (cf c).run s=(s2,.err x) from ak HV.out);go_wp2_with fail;go_ret;rw [HR.out];exact ⟨rfl,HS.out,HC2.out⟩
theorem o9 (n:Nd):(¬ db n=0)=(aB n=false∨232<(ar n).length):=by unfold db;cases aB n <;> by_cases h:232<(ar n).length <;> simp [h]
theorem bp (at_:Int) (n:Nd) (v:Value) (gs gm:Nat) (s:Sf) (w:World) (hS:ShIs w gs gm s) (h:NdV w v n) (hb:n.Bd):
  Calls Tryz.prog 66 #[bV gs,.int .i64 at_,v] w fun e w'=>e=.returned (dj ((aC at_ n).run s).2)∧ShIs w' gs gm ((aC at_ n).run s).1∧Ch (fun k=>k=gs∨k=gm) w w':=by
 obtain ⟨vk,vc,vd,rfl,hs⟩:=h;have HW0:=hid ((Below.refl _ w).alloc (Nat.le_refl _) (ap n vk vc vd));have HG0:=hid (ag (w0:=w) (g:=w.heap.size) (o:=ap n vk vc vd) rfl);have HS0:=hid (hs.keep HW0.out);have HB:=hid hb;have HA0:=hid (hS.ch (S:=fun _=>False) (Ch.of_below HW0.out) id id);clear hs hb hS;unfold bV;go_enter Tryz.func66,Tryz.ntmps66;go_upto_region 1 with fail
 generalize hw1:w.alloc (.cells #[.bool n.leaf,vk,vc,vd] 110)=w1 at *;have hw2:w.alloc (ap n vk vc vd)=w1:=hw1;rw [hw2] at HW0 HG0 HS0 HA0;clear hw1 hw2;obtain ⟨a0,a1,a2,a3,a4⟩:=aa HG0.out;go_wp2_with fail;refine (ib n _ w1 ⟨vk,vc,vd,rfl,HS0.out⟩ HB.out).mono ?_;rintro e w2 ⟨rfl,hb⟩;have HA2:=hid (HA0.out.ch (S:=fun _=>False) (Ch.of_below hb) id id);have HC2:=hid ((Ch.of_below (S:=fun k=>k=gs∨k=gm) HW0.out).trans (Ch.of_below hb));clear hb a0 a1 a2 a3 a4;by_cases he:db n=0
 ·have HV:=hid (show aC at_ n=.put at_ (aD (ar n)) .pure by
   unfold aC;rw [if_neg (fun h=>by rw [← o9] at h;exact h he)])
  have HL:=hid (show dD n=aD (ar n) by unfold dD;rw [if_pos he]);rw [he,HL.out];go_wp2_with fail;refine (jS at_ (al (aD (ar n))) gs gm s w2 HA2.out).mono ?_;rw [aW];rintro e w3 ⟨rfl,hs,hc⟩;have HS3:=hid hs;have HC3:=hid (HC2.out.trans hc);clear hs hc;go_wp2_with fail;go_ret;rw [HV.out];by_cases hp:hZ s at_ (aD (ar n))=0
  ·simp only [Pro.run,if_pos hp];rw [hp];exact ⟨rfl,HS3.out,HC3.out⟩
  ·simp only [Pro.run,if_neg hp];exact ⟨rfl,HS3.out,HC3.out⟩
 ·have HV:=hid (show aC at_ n=.fail 30 by
   unfold aC;rw [if_pos (by rw [← o9];exact he)])
  generalize db n=ee at *;have he2:(ee == 0)=false:=by simpa using he
  go_wp2_with fail;go_ret;rw [HV.out];exact ⟨rfl,HA2.out,HC2.out⟩
structure Nd.Sm (m:Nat) (n:Nd):Prop where
 k:n.keys.length≤m
 c:n.cells.length≤m
 d:n.kids.length≤m+1
 kl:∀ k ∈ n.keys,k.length≤64
 cl:∀ c ∈ n.cells,c.data.length≤40
theorem Nd.Sm.bd {m:Nat} {n:Nd} (h:n.Sm m) (hm:m≤1999):n.Bd:=⟨by have:=h.k;omega,by have:=h.c;omega,by have:=h.d;omega,fun k hk=>by have:=h.kl k hk;omega,fun c hc=>by have:=h.cl c hc;omega⟩
theorem Nd.Sm.mono {m m':Nat} {n:Nd} (h:n.Sm m) (hm:m≤m'):n.Sm m':=⟨by have:=h.k;omega,by have:=h.c;omega,by have:=h.d;omega,h.kl,h.cl⟩
theorem pV {c:Ce} (h:aE c=true):c.data.length≤40:=by
 by_cases h2:40<c.size
 ·rw [(eR h h2).1];simp
 ·have:=eS h h2;omega
theorem sq {n:Nd} (h:aB n=true) {m:Nat} (hk:n.keys.length≤m):n.Sm m:=by
 cases hl:n.leaf
 ·obtain ⟨h1,h2,h3,h4,h5,h6⟩:=aI h hl;exact ⟨hk,by rw [h4];simp,by omega,bF h1,by rw [h4];simp⟩
 ·obtain ⟨h1,h2,h3,h4⟩:=bS h hl;exact ⟨hk,by omega,by rw [h3];simp,bF h1,fun c hc=>pV (h4 c hc)⟩
theorem ot {l:By} {n:Nd} (h:cN l=some n):aB n=true∧n.Sm 229:=by obtain ⟨h1,h2,_⟩:=du h;have:=hG h1;exact ⟨h1,sq h1 (by omega)⟩
def mS:Value:=.agg #[.bool false,.slice none 0 0,.slice none 0 0,.slice none 0 0]
def RdP (base:Nat) (w:World) (e:Ending):Ans Nd→Prop
 | .ok n=>∃ v,e=.returned (.tuple #[v,.int .i64 0])∧NdO base w v n
 | .err x=>e=.returned (.tuple #[mS,.int .i64 x])
theorem cU {at_:Int} {s s':Sf} {n:Nd} (h:(aV at_).run s=(s',.ok n)):aB n=true∧n.Sm 229:=by
 unfold aV at h;simp only [Pro.run] at h
 split at h
 ·split at h
  ·cases h
  ·rename_i hd
   have:=ot hd;injection h with _ h
   injection h with h
   exact h ▸ this
 ·cases h
theorem NdO.below {base:Nat} {w w':World} {v:Value} {n:Nd} (h:NdO base w v n) (hb:Below w.heap.size w w'):NdO base w' v n:=by obtain ⟨vk,vc,vd,rfl,h1,h2,h3,h4⟩:=h;exact ⟨vk,vc,vd,rfl,h1.below hb,h2.below hb,h3.below hb,h4⟩
theorem NdO.ch {base:Nat} {w w':World} {S:Nat→Prop} {v:Value} {n:Nd} (h:NdO base w v n) (hc:Ch S w w') (hs:∀ j,base≤j→¬ S j):NdO base w' v n:=by obtain ⟨vk,vc,vd,rfl,h1,h2,h3,h4⟩:=h;exact ⟨vk,vc,vd,rfl,h1.ch hc (fun j hj=>hs j (h1.lt j hj).1),h2.ch hc (fun j hj=>hs j (h2.lt j hj).1),h3.ch hc (fun j hj=>hs j (h3.lt j hj).1),h4⟩
theorem NdO.base {base base':Nat} {w:World} {v:Value} {n:Nd} (h:NdO base w v n) (hb:base'≤base):NdO base' w v n:=by obtain ⟨vk,vc,vd,rfl,h1,h2,h3,h4⟩:=h;exact ⟨vk,vc,vd,rfl,h1.base hb,h2.base hb,h3.base hb,h4⟩
theorem cK (at_:Int) (gs gm:Nat) (s:Sf) (w:World) (hS:ShIs w gs gm s):
  Calls Tryz.prog 58 #[bV gs,.int .i64 at_] w fun e w'=>RdP w.heap.size w' e ((aV at_).run s).2∧ShIs w' gs gm ((aV at_).run s).1∧Ch (fun k=>k=gs∨k=gm) w w':=by
 have HA:=hid (hS.ch (S:=fun _=>False) (Ch.alloc (Ch.refl _ w) (ap Nd.zero (.slice none 0 0) (.slice none 0 0) (.slice none 0 0))) id id);have HZ:=hid (ag (w0:=w) (g:=w.heap.size) (o:=ap Nd.zero (.slice none 0 0) (.slice none 0 0) (.slice none 0 0)) rfl);have HC:=hid (Ch.alloc (Ch.refl (fun k=>k=gs∨k=gm) w) (ap Nd.zero (.slice none 0 0) (.slice none 0 0) (.slice none 0 0)));have hs1:w.heap.size<(w.alloc (ap Nd.zero (.slice none 0 0) (.slice none 0 0) (.slice none 0 0))).heap.size:=by simp
 have hgs:=aj hS.blk;have hgm:=hS.book.lt;have hl232:=hS.ok.l at_
 have HRT:=hid (show (aV at_).run s=if bc s at_=0 then (match cN (s.B at_) with | none=>(bl s,.err 30) | some n=>(bl s,.ok n)) else (bl s,.err (bc s at_)) by
  unfold aV;simp only [Pro.run];cases cN (s.B at_) <;> rfl)
 clear hS;unfold bV;go_enter Tryz.func58,Tryz.ntmps58;go_upto_region 1 with fail
 generalize hw1:w.alloc (.cells #[.bool false,.slice none 0 0,.slice none 0 0,.slice none 0 0] 110)=w1 at *;have hw2:w.alloc (ap Nd.zero (.slice none 0 0) (.slice none 0 0) (.slice none 0 0))=w1:=hw1;rw [hw2] at HA HZ HC hs1;clear hw1 hw2;go_wp2_with fail;refine (mD at_ gs gm s w1 HA.out).mono ?_;rintro e w2 ⟨rfl,hs,hc⟩;have HS2:=hid hs;have HC2:=hid (HC.out.trans (hc.mono (fun _ _ h=>.inl h)));have HZ2:=hid (hc.keep HZ.out (by omega));have hsz2:w1.heap.size≤w2.heap.size:=hc.size;clear hs hc;obtain ⟨o0,o1,o2,o3,o4⟩:=aa HZ2.out;have q0:=ab HZ2.out 0;have q1:=ab HZ2.out 1;have q2:=ab HZ2.out 2;have q3:=ab HZ2.out 3;simp only [Nd.zero] at o0;by_cases hbe:bc s at_=0
 ·have HGV:=hid (show fS s at_=s.B at_ by unfold fS;rw [if_pos hbe]);rw [HGV.out,hbe];have HR2:=hid (HRT.out.trans (if_pos hbe));generalize s.B at_=l at *;go_wp2_with fail;refine (oq l hl232 w2).mono ?_;rintro e w3 ⟨v,c,rfl,hp,hb⟩;have HS3:=hid (HS2.out.ch (S:=fun _=>False) (Ch.of_below hb) id id);have HC3:=hid (HC2.out.trans (Ch.of_below hb));have HZ3:=hid (ae HZ2.out hb);have hsz3:w2.heap.size≤w3.heap.size:=hb.size;clear hb o0 o1 o2 o3 o4 q0 q1 q2 q3;cases hd:cN l with
  | none=>
    rw [hd] at hp;obtain ⟨rfl,rfl⟩:=hp;have HV:=hid (show (aV at_).run s=(bl s,.err 30) by rw [HR2.out,hd]);have HZ4:=hid (ai HZ3.out (ap Nd.zero (.slice none 0 0) (.slice none 0 0) (.slice none 0 0)));have HS4:=hid (HS3.out.ch (S:=fun _=>False) (Ch.alloc (Ch.refl _ w3) (ap Nd.zero (.slice none 0 0) (.slice none 0 0) (.slice none 0 0))) id id);have HC4:=hid (Ch.alloc HC3.out (ap Nd.zero (.slice none 0 0) (.slice none 0 0) (.slice none 0 0)));go_upto_region 5 with fail
    generalize hw1:w3.alloc (.cells #[.bool false,.slice none 0 0,.slice none 0 0,.slice none 0 0] 110)=w4 at *;have hw2:w3.alloc (ap Nd.zero (.slice none 0 0) (.slice none 0 0) (.slice none 0 0))=w4:=hw1;rw [hw2] at HZ4 HS4 HC4;clear hw1 hw2;obtain ⟨o0,o1,o2,o3,o4⟩:=aa HZ4.out;have q0:=ab HZ4.out 0;have q1:=ab HZ4.out 1;have q2:=ab HZ4.out 2;have q3:=ab HZ4.out 3;simp only [Nd.zero] at o0;go_wp2_with fail;have hf:=ah (ah (ah (ah HZ4.out 0 (.bool false)) 1 (.slice none 0 0)) 2 (.slice none 0 0)) 3 (.slice none 0 0);obtain ⟨z0,z1,z2,z3,-⟩:=aa (n:=Nd.zero) hf;simp only [Nd.zero] at z0;have HC0:=hid ((((Ch.refl (fun j=>j=w.heap.size) w4).setCell (p:=⟨w.heap.size,0,none⟩) rfl (.bool false)).setCell (p:=⟨w.heap.size,1,none⟩) rfl (.slice none 0 0)).setCell (p:=⟨w.heap.size,2,none⟩) rfl (.slice none 0 0) |>.setCell (p:=⟨w.heap.size,3,none⟩) rfl (.slice none 0 0))
    exact bodyPost_ret (v:=.tuple #[mS,.int .i64 30]) (by simp [results,Tryz.results58,go_sem,z0,z1,z2,z3,mS]) rfl
     ⟨by rw [HV.out];exact rfl,by rw [HV.out];exact HS4.out.ch HC0.out (by omega) (by omega),HC4.out.then HC0.out (fun i hi=>.inr (by omega))⟩
  | some n=>
    rw [hd] at hp;obtain ⟨rfl,vk,vc,vd,rfl,h1,h2,h3,h4⟩:=hp;obtain ⟨A1,c1,rfl⟩:=Sl.len' (h1.sl aP);obtain ⟨A2,c2,rfl⟩:=Sl.len' (h2.sl bu);obtain ⟨A3,c3,rfl⟩:=Sl.len' (h3.sl aA);have HV:=hid (show (aV at_).run s=(bl s,.ok n) by rw [HR2.out,hd]);have HN:=hid (show NdO w2.heap.size w3 (.agg #[.bool n.leaf,.slice A1 n.keys.length c1,.slice A2 n.cells.length c2,.slice A3 n.kids.length c3]) n from ⟨_,_,_,rfl,h1,h2,h3,h4⟩);have HZ4:=hid (ai HZ3.out (ap n (.slice A1 n.keys.length c1) (.slice A2 n.cells.length c2) (.slice A3 n.kids.length c3)));have HX4:=hid (ag (w0:=w3) (g:=w3.heap.size) (o:=ap n (.slice A1 n.keys.length c1) (.slice A2 n.cells.length c2) (.slice A3 n.kids.length c3)) rfl);have HS4:=hid (HS3.out.ch (S:=fun _=>False) (Ch.alloc (Ch.refl _ w3) (ap n (.slice A1 n.keys.length c1) (.slice A2 n.cells.length c2) (.slice A3 n.kids.length c3))) id id);have HC4:=hid (Ch.alloc HC3.out (ap n (.slice A1 n.keys.length c1) (.slice A2 n.cells.length c2) (.slice A3 n.kids.length c3)));have HN4:=hid (HN.out.below ((Below.refl _ w3).alloc (Nat.le_refl _) (ap n (.slice A1 n.keys.length c1) (.slice A2 n.cells.length c2) (.slice A3 n.kids.length c3))));clear h1 h2 h3 h4 hd;go_upto_region 5 with fail
    generalize hw1:w3.alloc (.cells #[.bool n.leaf,.slice A1 n.keys.length c1,.slice A2 n.cells.length c2,.slice A3 n.kids.length c3] 110)=w4 at *;have hw2:w3.alloc (ap n (.slice A1 n.keys.length c1) (.slice A2 n.cells.length c2) (.slice A3 n.kids.length c3))=w4:=hw1;rw [hw2] at HZ4 HS4 HC4 HX4 HN4;clear hw1 hw2;obtain ⟨o0,o1,o2,o3,o4⟩:=aa HZ4.out;obtain ⟨a0,a1,a2,a3,a4⟩:=aa HX4.out;have q0:=ab HZ4.out 0;have q1:=ab HZ4.out 1;have q2:=ab HZ4.out 2;have q3:=ab HZ4.out 3;simp only [Nd.zero] at o0;go_wp2_with fail;have hf:=ah (ah (ah (ah HZ4.out 0 (.bool n.leaf)) 1 (.slice A1 n.keys.length c1)) 2 (.slice A2 n.cells.length c2)) 3 (.slice A3 n.kids.length c3);obtain ⟨z0,z1,z2,z3,-⟩:=aa (n:=n) hf;have HC0:=hid ((((Ch.refl (fun j=>j=w.heap.size) w4).setCell (p:=⟨w.heap.size,0,none⟩) rfl (.bool n.leaf)).setCell (p:=⟨w.heap.size,1,none⟩) rfl (.slice A1 n.keys.length c1)).setCell (p:=⟨w.heap.size,2,none⟩) rfl (.slice A2 n.cells.length c2) |>.setCell (p:=⟨w.heap.size,3,none⟩) rfl (.slice A3 n.kids.length c3))
    exact bodyPost_ret (v:=.tuple #[.agg #[.bool n.leaf,.slice A1 n.keys.length c1,.slice A2 n.cells.length c2,.slice A3 n.kids.length c3],.int .i64 0]) (by simp [results,Tryz.results58,go_sem,z0,z1,z2,z3]) rfl
     ⟨by rw [HV.out];exact ⟨_,rfl,(HN4.out.ch HC0.out (fun j hj e=>by omega)).base (by omega)⟩,
      by rw [HV.out];exact HS4.out.ch HC0.out (by omega) (by omega),HC4.out.then HC0.out (fun i hi=>.inr (by omega))⟩
 ·have HV:=hid (HRT.out.trans (if_neg hbe));generalize bc s at_=be at *;generalize fS s at_=gv at *;have hbe2:(be == 0)=false:=by simpa using hbe
  go_wp2_with fail;have hf:=ah (ah (ah (ah HZ2.out 0 (.bool false)) 1 (.slice none 0 0)) 2 (.slice none 0 0)) 3 (.slice none 0 0);obtain ⟨z0,z1,z2,z3,-⟩:=aa (n:=Nd.zero) hf;simp only [Nd.zero] at z0;have HC0:=hid ((((Ch.refl (fun j=>j=w.heap.size) w2).setCell (p:=⟨w.heap.size,0,none⟩) rfl (.bool false)).setCell (p:=⟨w.heap.size,1,none⟩) rfl (.slice none 0 0)).setCell (p:=⟨w.heap.size,2,none⟩) rfl (.slice none 0 0) |>.setCell (p:=⟨w.heap.size,3,none⟩) rfl (.slice none 0 0))
  exact bodyPost_ret (v:=.tuple #[mS,.int .i64 be]) (by simp [results,Tryz.results58,go_sem,z0,z1,z2,z3,mS]) rfl
   ⟨by rw [HV.out];exact rfl,by rw [HV.out];exact HS2.out.ch HC0.out (by omega) (by omega),HC2.out.then HC0.out (fun i hi=>.inr (by omega))⟩
theorem mg (n:Nd) (k:By) (v:Value) (w:World) (h:NdV w v n) (hb:n.Bd) (hg:aB n=true):Calls Tryz.prog 59 #[v,.string (al k)] w fun e w'=>e=.returned (.int .i64 (bT n k))∧Below w.heap.size w w':=by
 have HGD:=hid hg;have HLB:=hid (show bB n.keys k≤n.keys.length from (List.takeWhile_sublist _).length_le);clear hg;obtain ⟨vk,vc,vd,rfl,hs⟩:=h;have HW0:=hid ((Below.refl _ w).alloc (Nat.le_refl _) (ap n vk vc vd));have HG0:=hid (ag (w0:=w) (g:=w.heap.size) (o:=ap n vk vc vd) rfl);have HS0:=hid (hs.keep HW0.out);have HB:=hid hb;clear hs hb;go_enter Tryz.func59,Tryz.ntmps59;go_upto_region 1 with fail
 generalize hw1:w.alloc (.cells #[.bool n.leaf,vk,vc,vd] 110)=w1 at *;have hw2:w.alloc (ap n vk vc vd)=w1:=hw1;rw [hw2] at HW0 HG0 HS0;clear hw1 hw2;obtain ⟨a0,a1,a2,a3,a4⟩:=aa HG0.out;go_wp2_with fail;refine (iB n k _ w1 ⟨vk,vc,vd,rfl,HS0.out⟩ HB.out HGD.out).mono ?_;rintro e w2 ⟨rfl,hb⟩;have HW2:=hid (HW0.out.trans (hb.mono HW0.out.size));clear hb a0 a1 a2 a3 a4;have hbk:=HB.out.k;have hlb:=HLB.out;cases hi:fO n.keys k
 ·have HV:=hid (show bT n k=bB n.keys k by unfold bT;rw [hi];rfl);go_wp2_with fail;go_ret;exact ⟨by rw [HV.out];rfl,HW2.out⟩
 ·have HV:=hid (show bT n k=bB n.keys k+1 by unfold bT;rw [hi];rfl);go_wp2_with fail;go_ret;exact ⟨by rw [HV.out];go_num,HW2.out⟩
theorem eF (n:Nd) (v:Value) (w:World) (h:NdV w v n) (hb:n.Bd):Calls Tryz.prog 174 #[v] w fun e w'=>e=.returned (.int .i64 (aY n))∧Below w.heap.size w w':=by
 obtain ⟨vk,vc,vd,rfl,hs⟩:=h;obtain ⟨A1,c1,rfl⟩:=Sl.len' hs.k;have HT:=hid (show aY n=if n.leaf=false∧n.keys.length=0 then 0 else g8 n by
  unfold aY;cases n.leaf <;> cases n.keys <;> simp)
 have HW0:=hid ((Below.refl _ w).alloc (Nat.le_refl _) (ap n (.slice A1 n.keys.length c1) vc vd));have HG0:=hid (ag (w0:=w) (g:=w.heap.size) (o:=ap n (.slice A1 n.keys.length c1) vc vd) rfl);have HS0:=hid (hs.keep HW0.out);have HB:=hid hb;have hbk:=hb.k;clear hs hb;go_enter Tryz.func174,Tryz.ntmps174;go_upto_region 1 with fail
 generalize hw1:w.alloc (.cells #[.bool n.leaf,.slice A1 n.keys.length c1,vc,vd] 110)=w1 at *;have hw2:w.alloc (ap n (.slice A1 n.keys.length c1) vc vd)=w1:=hw1;rw [hw2] at HW0 HG0 HS0;clear hw1 hw2;obtain ⟨a0,a1,a2,a3,a4⟩:=aa HG0.out;have HSZ:=hid ((qB n _ w1 ⟨_,vc,vd,rfl,HS0.out⟩ HB.out));cases hl:n.leaf
 ·rw [hl] at a0 HSZ;by_cases hk:n.keys.length=0
  ·have HV:=hid (show aY n=0 by rw [HT.out,if_pos ⟨hl,hk⟩]);have hk2:((n.keys.length:Int) == 0)=true:=by rw [hk];rfl
   go_wp2_with fail;go_ret;exact ⟨by rw [HV.out];rfl,HW0.out⟩
  ·have HV:=hid (show aY n=g8 n by rw [HT.out,if_neg (fun h=>hk h.2)]);have hk2:((n.keys.length:Int) == 0)=false:=by simpa using hk
   go_wp2_with fail;refine HSZ.out.mono ?_;rintro e w2 ⟨rfl,hb⟩;have HW2:=hid (HW0.out.trans (hb.mono HW0.out.size));clear hb a0 a1 a2 a3 a4;go_wp2_with fail;go_ret;exact ⟨by rw [HV.out];rfl,HW2.out⟩
 ·have HV:=hid (show aY n=g8 n by rw [HT.out,if_neg (fun h=>by rw [hl] at h;cases h.1)]);rw [hl] at a0 HSZ;go_wp2_with fail;refine HSZ.out.mono ?_;rintro e w2 ⟨rfl,hb⟩;have HW2:=hid (HW0.out.trans (hb.mono HW0.out.size));clear hb a0 a1 a2 a3 a4;go_wp2_with fail;go_ret;exact ⟨by rw [HV.out];rfl,HW2.out⟩
theorem et (n:Nd) (v:Value) (w:World) (h:NdV w v n) (hb:n.Bd):Calls Tryz.prog 136 #[v] w fun e w'=>e=.returned (.bool (bX n))∧Below w.heap.size w w':=by
 obtain ⟨vk,vc,vd,rfl,hs⟩:=h;have HW0:=hid ((Below.refl _ w).alloc (Nat.le_refl _) (ap n vk vc vd));have HG0:=hid (ag (w0:=w) (g:=w.heap.size) (o:=ap n vk vc vd) rfl);have HS0:=hid (hs.keep HW0.out);have HB:=hid hb;clear hs hb;go_enter Tryz.func136,Tryz.ntmps136;go_upto_region 1 with fail
 generalize hw1:w.alloc (.cells #[.bool n.leaf,vk,vc,vd] 110)=w1 at *;have hw2:w.alloc (ap n vk vc vd)=w1:=hw1;rw [hw2] at HW0 HG0 HS0;clear hw1 hw2;obtain ⟨a0,a1,a2,a3,a4⟩:=aa HG0.out;go_wp2_with fail;refine (eF n _ w1 ⟨vk,vc,vd,rfl,HS0.out⟩ HB.out).mono ?_;rintro e w2 ⟨rfl,hb⟩;have HW2:=hid (HW0.out.trans (hb.mono HW0.out.size));clear hb a0 a1 a2 a3 a4;have HV:=hid (show bX n=decide ((aY n:Int)≤232) by
  unfold bX;by_cases h:aY n≤232
  ·rw [decide_eq_true h,decide_eq_true (by omega)]
  ·rw [decide_eq_false h,decide_eq_false (by omega)])
 generalize aY n=m at *;go_wp2_with fail;go_ret;exact ⟨by rw [HV.out];rfl,HW2.out⟩
def MkP (e:Ending):Ans Int→Prop
 | .ok n=>e=.returned (.tuple #[.int .i64 n,.int .i64 0])
 | .err x=>e=.returned (.tuple #[.int .i64 0,.int .i64 x])
def ndL:Value:=.agg #[.bool true,.slice none 0 0,.slice none 0 0,.slice none 0 0]
theorem tM (w:World):NdV w ndL ⟨true,[],[],[]⟩:=⟨_,_,_,rfl,Sl.nil,Sl.nil,Sl.nil⟩
theorem qV (s:Sf):makeT.run s=if bj s=0 then (match ((aC (bN s) ⟨true,[],[],[]⟩).run (aR s)).2 with | .ok _=>(((aC (bN s) ⟨true,[],[],[]⟩).run (aR s)).1,.ok (bN s)) | .err x=>(((aC (bN s) ⟨true,[],[],[]⟩).run (aR s)).1,.err x)) else (aR s,.err (bj s)):=by unfold makeT;simp only [Pro.run,run_bind];cases ((aC (bN s) ⟨true,[],[],[]⟩).run (aR s)).2 <;> rfl
theorem ci (a:Int) (n:Nd):(aC a n).NZ:=by
 unfold aC
 split
 ·exact show (30:Int)≠0 by decide
 ·trivial
theorem qU (gs gm:Nat) (s:Sf) (w:World) (hS:ShIs w gs gm s):
  Calls Tryz.prog 24 #[bV gs] w fun e w'=>MkP e (makeT.run s).2∧ShIs w' gs gm (makeT.run s).1∧Ch (fun k=>k=gs∨k=gm) w w':=by
 have HRT:=hid (qV s);have HS:=hid hS;have hnz:=Pro.NZ.run (aC (bN s) ⟨true,[],[],[]⟩) (aR s);clear hS;unfold bV;go_enter Tryz.func24,Tryz.ntmps24;go_wp2_with fail;refine (en gs gm s w HS.out).mono ?_;rintro e w1 ⟨rfl,hs,hc⟩;have HS1:=hid hs;have HC1:=hid hc;clear hs hc;by_cases hbe:bj s=0
 ·have HR:=hid (HRT.out.trans (if_pos hbe));rw [hbe];go_wp2_with fail;refine (bp (bN s) ⟨true,[],[],[]⟩ _ gs gm (aR s) w1 HS1.out (tM w1) ⟨by simp,by simp,by simp,by simp,by simp⟩).mono ?_;rintro e w2 ⟨rfl,hs,hc⟩;have HS2:=hid hs;have HC2:=hid (HC1.out.trans hc);clear hs hc;obtain ⟨⟨s2,a⟩,hx⟩:∃ x,(aC (bN s) ⟨true,[],[],[]⟩).run (aR s)=x:=⟨_,rfl⟩;rw [hx] at HS2 HR hnz;cases a with
  | ok u=> simp only [dj];go_wp2_with fail;go_ret2;rw [HR.out];exact ⟨rfl,HS2.out,HC2.out⟩
  | err x=>
    have hx0:¬ x=0:=hnz x (ci _ _) rfl;have hx1:(x == 0)=false:=by simpa using hx0
    simp only [dj];go_wp2_with fail;go_ret2;rw [HR.out];exact ⟨rfl,HS2.out,HC2.out⟩
 ·have HR:=hid (HRT.out.trans (if_neg hbe));generalize bj s=be at *;have hbe2:(be == 0)=false:=by simpa using hbe
  go_wp2_with fail;go_ret2;rw [HR.out];exact ⟨rfl,HS1.out,HC1.out⟩
def sJ (e:Ending):Ans (Option By)→Prop
 | .ok (some v)=>e=.returned (.tuple #[.string (al v),.bool true,.int .i64 0])
 | .ok none=>e=.returned (.tuple #[.string ⟨#[]⟩,.bool false,.int .i64 0])
 | .err x=>e=.returned (.tuple #[.string ⟨#[]⟩,.bool false,.int .i64 x])
theorem bL {a:Int} {s:Sf}:∀ x,((aV a).run s).2=.err x→x≠0:=fun x=>Pro.NZ.run _ s x (eo a)
theorem fF {c:Ce} {s:Sf}:∀ x,((bb c).run s).2=.err x→x≠0:=fun x=>Pro.NZ.run _ s x (im c)
theorem o8 (root:Int) (k:By) (gs gm:Nat) (s:Sf) (w:World) (hS:ShIs w gs gm s):
  Calls Tryz.prog 22 #[bV gs,.int .i64 root,.string (al k)] w fun e w'=>sJ e ((bo 20 root k).run s).2∧ShIs w' gs gm ((bo 20 root k).run s).1∧Ch (fun k=>k=gs∨k=gm) w w':=by
 have HS:=hid hS;clear hS;unfold bV;go_enter Tryz.func22,Tryz.ntmps22;go_wp2_with fail;go_loopw [9,16] (fun av iv wr=>∃ (f:Nat) (at_:Int) (s1:Sf),f≤20∧av=.int .i64 at_∧iv=.int .i64 (20 - f:Int)∧(bo 20 root k).run s=(bo f at_ k).run s1∧ShIs wr gs gm s1∧Ch (fun k=>k=gs∨k=gm) w wr) (fun _ iv _=>20 - (intOf iv).toNat)
 case atStart=>exact ⟨20,root,s,Nat.le_refl _,rfl,rfl,rfl,HS.out,Ch.refl _ _⟩
 case round=>
  obtain ⟨f,at_,s1,hf,rfl,rfl,hr,hs,hc⟩:=hrel;have HR:=hid hr;have HS1:=hid hs;have HC1:=hid hc;clear hr hs hc;cases f with
  | zero=> have HV:=hid (show (bo 20 root k).run s=(s1,.err 30) from HR.out);go_wp2_with fail;go_ret3;rw [HV.out];exact ⟨rfl,HS1.out,HC1.out⟩
  | succ f=>
    have hi:(20 - ((f+1:Nat):Int))<20:=by omega
    have hi0:0≤(20 - ((f+1:Nat):Int)):=by omega
    have HN:=hid (show 20 - ((f+1:Nat):Int)+1=20 - (f:Int) by omega);have HRF:=hid (show (bo 20 root k).run s=((aV at_).bind fun n=>if n.leaf then fV n k else bo f (n.kids.getD (bT n k) 0) k).run s1 from HR.out);generalize 20 - ((f+1:Nat):Int)=ii at *;go_wp2_with fail;refine (cK at_ gs gm s1 wr HS1.out).mono ?_;rintro e w2 ⟨hp,hs,hc⟩;have hrz:=bL (a:=at_) (s:=s1);obtain ⟨⟨s2,a⟩,hx⟩:∃ x,(aV at_).run s1=x:=⟨_,rfl⟩;rw [hx] at hp hs hrz;have HS2:=hid hs;have HC2:=hid (HC1.out.trans hc);have HX:=hid hx;have hszc:=hc.size;clear hs hc hx;cases a with
    | err x=>
      obtain rfl:=hp;have hx0:¬ x=0:=hrz x rfl;have hx1:(x == 0)=false:=by simpa using hx0
      have HV:=hid (show (bo 20 root k).run s=(s2,.err x) from HRF.out.trans (ak HX.out));have HS3:=hid (HS2.out.ch (S:=fun _=>False) (Ch.alloc (Ch.refl _ w2) (ap Nd.zero (.slice none 0 0) (.slice none 0 0) (.slice none 0 0))) id id);have HC3:=hid (Ch.alloc HC2.out (ap Nd.zero (.slice none 0 0) (.slice none 0 0) (.slice none 0 0)));simp only [mS];go_wp2_with fail;go_ret3;rw [HV.out];exact ⟨rfl,HS3.out,HC3.out⟩
    | ok n=>
      obtain ⟨v,rfl,vk,vc,vd,rfl,h1,h2,h3,h4⟩:=hp;obtain ⟨hg,hsm⟩:=cU HX.out;have HGD:=hid hg;have HSM:=hid hsm;have HV:=hid (show (bo 20 root k).run s=(if n.leaf then fV n k else bo f (n.kids.getD (bT n k) 0) k).run s2 from HRF.out.trans (af HX.out));obtain ⟨A1,c1,rfl⟩:=Sl.len' (h1.sl aP);obtain ⟨A2,c2,rfl⟩:=Sl.len' (h2.sl bu);obtain ⟨A3,c3,rfl⟩:=Sl.len' (h3.sl aA);have HN2:=hid (show NdS w2 n (.slice A1 n.keys.length c1) (.slice A2 n.cells.length c2) (.slice A3 n.kids.length c3) from ⟨h1.sl aP,h2.sl bu,h3.sl aA⟩);clear h1 h2 h3 h4 hg hsm;have HX3:=hid (ag (w0:=w2) (g:=w2.heap.size) (o:=ap n (.slice A1 n.keys.length c1) (.slice A2 n.cells.length c2) (.slice A3 n.kids.length c3)) rfl);have HS3:=hid (HS2.out.ch (S:=fun _=>False) (Ch.alloc (Ch.refl _ w2) (ap n (.slice A1 n.keys.length c1) (.slice A2 n.cells.length c2) (.slice A3 n.kids.length c3))) id id);have HC3:=hid (Ch.alloc HC2.out (ap n (.slice A1 n.keys.length c1) (.slice A2 n.cells.length c2) (.slice A3 n.kids.length c3)));have HN3:=hid (HN2.out.keep ((Below.refl _ w2).alloc (Nat.le_refl _) (ap n (.slice A1 n.keys.length c1) (.slice A2 n.cells.length c2) (.slice A3 n.kids.length c3))));have hgs:=aj HS3.out.blk;go_upto_region 5 with fail
      generalize hw1:w2.alloc (.cells #[.bool n.leaf,.slice A1 n.keys.length c1,.slice A2 n.cells.length c2,.slice A3 n.kids.length c3] 110)=w3 at *;have hw2:w2.alloc (ap n (.slice A1 n.keys.length c1) (.slice A2 n.cells.length c2) (.slice A3 n.kids.length c3))=w3:=hw1;rw [hw2] at HX3 HS3 HC3 HN3 hgs;clear hw1 hw2;obtain ⟨a0,a1,a2,a3,a4⟩:=aa HX3.out;generalize w2.heap.size=gn at *;cases hl:n.leaf
      ·rw [hl] at a0 HV;have HV1:=hid (show (bo 20 root k).run s=(bo f (n.kids.getD (bT n k) 0) k).run s2 from HV.out);obtain ⟨i1,i2,i3,i4,i5,i6⟩:=aI HGD.out hl;have hkn:bT n k<n.kids.length:=by
        have h1:=(List.takeWhile_sublist (l:=n.keys) (p:=fun x=>bK x k)).length_le;unfold bT
        split
        ·rename_i hi
         have:=(eE hi).1;omega
        ·have:bB n.keys k≤n.keys.length:=h1;omega
       obtain ⟨b,off,c',he,hbl,hcells⟩:=(show Sl iC 1 w3 (.slice A3 n.kids.length c3) n.kids from HN3.out.d).at1 hkn;injection he with he1 he2 he3
       subst he1 he3;have e0:w3.cell? ⟨b,off+bT n k,none⟩=some (.int .i64 n.kids[bT n k]):=by simpa [iC] using hcells 0 _ rfl
       have HKD:=hid (show n.kids.getD (bT n k) 0=n.kids[bT n k] by rw [List.getD_eq_getElem?_getD,List.getElem?_eq_getElem hkn];rfl);rw [HKD.out] at HV1;have hk0:(0:Int)≤(bT n k:Int):=by omega
       have hk1:(bT n k:Int)<(n.kids.length:Int):=by omega
       have HKA:=hid (fun (y:Up w3)=>mg n k _ y.w ⟨_,_,_,rfl,HN3.out.keep y.h⟩ (HSM.out.bd (by decide)) HGD.out);rw [hl] at HKA;clear i1 i2 i3 i4 i5 i6 hcells;generalize n.kids[bT n k]=kd at *;go_wp2_with fail;have v1:=aU a1 a4;have v2:=aU a2 a4;have v3:=aU a3 a4;have v0:=aU a0 a4;have ve:=aU e0 hbl;clear a0 a1 a2 a3 e0;refine aJ (by kernel_rfl) (by kernel_rfl) ?_
       repeat (go_big_quiet_step (first | (go_at_call 59;exact eg (HKA.out _))))
       refine wpQuiet_nil ?_;rintro w' ⟨⟨w4,hb4⟩,rfl⟩;have HS4:=hid (HS3.out.ch (S:=fun _=>False) (Ch.of_below hb4) id id);have HC4:=hid (HC3.out.trans (Ch.of_below hb4));clear hb4 v0 v1 v2 v3 ve a4;go_wp2_with fail;go_roundw
       case rel=>exact ⟨f,kd,s2,by omega,rfl,by rw [HN.out],HV1.out,HS4.out,HC4.out⟩
       case measure=>simp [intOf];omega
      ·rw [hl] at a0 HV;have HV1:=hid (show (bo 20 root k).run s=(fV n k).run s2 from HV.out);have HCL:=hid (bS HGD.out hl).2.1;have HF:=hid (iB n k _ w3 ⟨_,_,_,rfl,HN3.out⟩ (HSM.out.bd (by decide)) HGD.out);rw [hl] at HF;go_wp2_with fail;refine HF.out.mono ?_;rintro e w4 ⟨rfl,hb⟩;have HX4:=hid (ae HX3.out hb);have HS4:=hid (HS3.out.ch (S:=fun _=>False) (Ch.of_below hb) id id);have HC4:=hid (HC3.out.trans (Ch.of_below hb));have HN4:=hid (HN3.out.keep hb);clear hb a0 a1 a2 a3 a4;obtain ⟨a0,a1,a2,a3,a4⟩:=aa HX4.out;rw [hl] at a0;cases his:fO n.keys k
       ·have HV2:=hid (show (bo 20 root k).run s=(s2,.ok none) by rw [HV1.out];unfold fV;rw [his];rfl);go_wp2_with fail;go_ret3;rw [HV2.out];exact ⟨rfl,HS4.out,HC4.out⟩
       ·have hlt:bB n.keys k<n.cells.length:=by have:=(eE his).1;have:=HCL.out;omega
        have HV2:=hid (show (bo 20 root k).run s=((bb n.cells[bB n.keys k]).bind fun r=>.pure (some r.1)).run s2 by
         rw [HV1.out];unfold fV;rw [his,if_pos rfl,List.getD_eq_getElem?_getD,List.getElem?_eq_getElem hlt];rfl)
        obtain ⟨b,off,he,hbl,hn',e0,e1,e2⟩:=(show Sl cC 3 w4 (.slice A2 n.cells.length c2) n.cells from HN4.out.c).cell3 hlt;subst he;have hdl:=HSM.out.cl _ (List.getElem_mem hlt);have hk0:(0:Int)≤(bB n.keys k:Int):=by omega
        have hk1:(bB n.keys k:Int)<(n.cells.length:Int):=by omega
        generalize n.cells[bB n.keys k]=c at *;generalize bB n.keys k=lb at *;have HCV:=hid (ov c gs gm s2 w4 HS4.out (by omega));unfold jj bV at HCV;go_wp2_with fail;refine HCV.out.mono ?_;rintro e w5 ⟨hp,hs,hc⟩;have HS5:=hid hs;have HC5:=hid (HC4.out.trans hc);clear hs hc a0 a1 a2 a3 a4 e0 e1 e2;have hwz:=fF (c:=c) (s:=s2);obtain ⟨⟨s3,a⟩,hx⟩:∃ x,(bb c).run s2=x:=⟨_,rfl⟩;rw [hx] at HS5 hp hwz;cases a with
        | ok r=> obtain ⟨d,ps⟩:=r;obtain rfl:=hp;have HV3:=hid (show (bo 20 root k).run s=(s3,.ok (some d)) from HV2.out.trans (af hx));go_wp2_with fail;go_ret3;rw [HV3.out];exact ⟨rfl,HS5.out,HC5.out⟩
        | err x=>
          obtain rfl:=hp;have hx0:¬ x=0:=hwz x rfl;have hx1:(x == 0)=false:=by simpa using hx0
          have HV3:=hid (show (bo 20 root k).run s=(s3,.err x) from HV2.out.trans (ak hx));go_wp2_with fail;go_ret3;rw [HV3.out];exact ⟨rfl,HS5.out,HC5.out⟩
end Go.Proofs.YtknioodagnjchaaGreatDoor
