/- chain: Value, List, Free. chain.Free. tree: write. tree: read, kid, size, fits. tree: Make, Get. -/
import Derived.Test.YtknioodagnjchaaGreatDoorVCa
import Derived.Test.YtknioodagnjchaaGreatDoorVPl
set_option maxRecDepth 100000
set_option maxHeartbeats 2000000
namespace Go.Proofs.YtknioodagnjchaaGreatDoor
open Go.RowKit
def ValP (e:Ending):Ans (By × List Int)→Prop
 | .ok (d,_)=>e=.returned (.tuple #[.string (mkS d),.int .i64 0])
 | .err x=>e=.returned (.tuple #[.string ⟨#[]⟩,.int .i64 x])
def LisP (base:Nat) (w:World) (e:Ending):Ans (By × List Int)→Prop
 | .ok (_,ps)=>∃ vl,e=.returned (.tuple #[vl,.int .i64 0])∧Own iC 1 3 base w vl ps
 | .err x=>e=.returned (.tuple #[.slice none 0 0,.int .i64 x])
theorem cvalue_any (c:Ce) (gs gm:Nat) (s:Sf) (w:World) (h:ShIs w gs gm s) (hl:c.data.length≤100000):
  Calls Tryz.prog 61 #[shV gs,ceV c] w fun e w'=>ValP e ((walkT c).run s).2∧ShIs w' gs gm ((walkT c).run s).1∧Ch (fun k=>k=gs∨k=gm) w w':=by
 have HA:=Lib.hid (h.ch (S:=fun _=>False) (Ch.alloc (Ch.refl _ w) (ceB c)) id id)
 have HX:=Lib.hid (blk_new (w0:=w) (g:=w.heap.size) (o:=ceB c) rfl)
 have HC:=Lib.hid (Ch.alloc (Ch.refl (fun k=>k=gs∨k=gm) w) (ceB c))
 have hs1:w.heap.size≤(w.alloc (ceB c)).heap.size:=by simp
 clear h
 unfold shV ceV
 go_enter Tryz.func61,Tryz.ntmps61
 go_upto_region 1 with fail
 generalize hw1:w.alloc (.cells #[.int .i64 c.size,.string (mkS c.data),.int .i64 c.page] 119)=w1 at *
 have hw2:w.alloc (ceB c)=w1:=hw1
 rw [hw2] at HA HX HC hs1
 clear hw1 hw2
 obtain ⟨b0,b1,b2,b3,b4,b5,b6⟩:=ce_cells HX.out
 go_wp2_with fail
 refine (walk_any c gs gm s w1 HA.out hl).mono ?_
 rintro e w2 ⟨hp,hs,hc⟩
 have HS:=Lib.hid hs
 have HC2:=Lib.hid (HC.out.trans hc)
 clear hs hc b0 b1 b2 b3 b4 b5 b6
 obtain ⟨⟨s2,a⟩,hx⟩:∃ x,(walkT c).run s=x:=⟨_,rfl⟩
 rw [hx] at HS hp
 have HV:=Lib.hid hx
 clear hx
 cases a with
 | ok v=>
   obtain ⟨d,ps⟩:=v
   obtain ⟨vl,rfl,ho⟩:=hp
   have HO:=Lib.hid (Own.base ho hs1)
   clear ho
   go_wp2_with fail
   go_ret2
   rw [HV.out]
   exact ⟨by first | exact rfl | exact ⟨_,rfl,HO.out⟩,HS.out,HC2.out⟩
 | err x=>
   obtain rfl:=hp
   go_wp2_with fail
   go_ret2
   rw [HV.out]
   exact ⟨rfl,HS.out,HC2.out⟩
theorem clist_any (c:Ce) (gs gm:Nat) (s:Sf) (w:World) (h:ShIs w gs gm s) (hl:c.data.length≤100000):
  Calls Tryz.prog 123 #[shV gs,ceV c] w fun e w'=>LisP w.heap.size w' e ((walkT c).run s).2∧ShIs w' gs gm ((walkT c).run s).1∧Ch (fun k=>k=gs∨k=gm) w w':=by
 have HA:=Lib.hid (h.ch (S:=fun _=>False) (Ch.alloc (Ch.refl _ w) (ceB c)) id id)
 have HX:=Lib.hid (blk_new (w0:=w) (g:=w.heap.size) (o:=ceB c) rfl)
 have HC:=Lib.hid (Ch.alloc (Ch.refl (fun k=>k=gs∨k=gm) w) (ceB c))
 have hs1:w.heap.size≤(w.alloc (ceB c)).heap.size:=by simp
 clear h
 unfold shV ceV
 go_enter Tryz.func123,Tryz.ntmps123
 go_upto_region 1 with fail
 generalize hw1:w.alloc (.cells #[.int .i64 c.size,.string (mkS c.data),.int .i64 c.page] 119)=w1 at *
 have hw2:w.alloc (ceB c)=w1:=hw1
 rw [hw2] at HA HX HC hs1
 clear hw1 hw2
 obtain ⟨b0,b1,b2,b3,b4,b5,b6⟩:=ce_cells HX.out
 go_wp2_with fail
 refine (walk_any c gs gm s w1 HA.out hl).mono ?_
 rintro e w2 ⟨hp,hs,hc⟩
 have HS:=Lib.hid hs
 have HC2:=Lib.hid (HC.out.trans hc)
 clear hs hc b0 b1 b2 b3 b4 b5 b6
 obtain ⟨⟨s2,a⟩,hx⟩:∃ x,(walkT c).run s=x:=⟨_,rfl⟩
 rw [hx] at HS hp
 have HV:=Lib.hid hx
 clear hx
 cases a with
 | ok v=>
   obtain ⟨d,ps⟩:=v
   obtain ⟨vl,rfl,ho⟩:=hp
   have HO:=Lib.hid (Own.base ho hs1)
   clear ho
   go_wp2_with fail
   go_ret2
   rw [HV.out]
   exact ⟨by first | exact rfl | exact ⟨_,rfl,HO.out⟩,HS.out,HC2.out⟩
 | err x=>
   obtain rfl:=hp
   go_wp2_with fail
   go_ret2
   rw [HV.out]
   exact ⟨rfl,HS.out,HC2.out⟩
end Go.Proofs.YtknioodagnjchaaGreatDoor
namespace Go.Proofs.YtknioodagnjchaaGreatDoor
open Go.RowKit
def errV:Ans Unit→Value
 | .ok _=>.int .i64 0
 | .err x=>.int .i64 x
theorem cfree_any (c:Ce) (gs gm:Nat) (s:Sf) (w:World) (h:ShIs w gs gm s) (hl:c.data.length≤100000):
  Calls Tryz.prog 69 #[shV gs,ceV c] w fun e w'=>e=.returned (errV ((dropcT c).run s).2)∧ShIs w' gs gm ((dropcT c).run s).1∧Ch (fun k=>k=gs∨k=gm) w w':=by
 have HA:=Lib.hid (h.ch (S:=fun _=>False) (Ch.alloc (Ch.refl _ w) (ceB c)) id id)
 have HX:=Lib.hid (blk_new (w0:=w) (g:=w.heap.size) (o:=ceB c) rfl)
 have HC:=Lib.hid (Ch.alloc (Ch.refl (fun k=>k=gs∨k=gm) w) (ceB c))
 have hs1:w.heap.size≤(w.alloc (ceB c)).heap.size:=by simp
 have hgs:=blk_lt h.blk
 have hgm:=h.book.lt
 have HNE:=Lib.hid (show ∀ x,((walkT c).run s).2=.err x→x≠0 from fun x=>Pro.NZ.run _ s x (walkT_nz c))
 clear h
 unfold shV ceV
 go_enter Tryz.func69,Tryz.ntmps69
 go_upto_region 1 with fail
 generalize hw1:w.alloc (.cells #[.int .i64 c.size,.string (mkS c.data),.int .i64 c.page] 119)=w1 at *
 have hw2:w.alloc (ceB c)=w1:=hw1
 rw [hw2] at HA HX HC hs1
 clear hw1 hw2
 obtain ⟨b0,b1,b2,b3,b4,b5,b6⟩:=ce_cells HX.out
 go_wp2_with fail
 refine (clist_any c gs gm s w1 HA.out hl).mono ?_
 rintro e w2 ⟨hp,hs,hc⟩
 have HS:=Lib.hid hs
 have HC2:=Lib.hid (HC.out.trans hc)
 clear hs hc b0 b1 b2 b3 b4 b5 b6
 obtain ⟨⟨s2,a⟩,hx⟩:∃ x,(walkT c).run s=x:=⟨_,rfl⟩
 rw [hx] at HS hp HNE
 have HV:=Lib.hid hx
 clear hx
 cases a with
 | ok v=>
   obtain ⟨d,ps⟩:=v
   obtain ⟨vl,rfl,ho⟩:=hp
   have HO:=Lib.hid (Own.base ho hs1)
   obtain ⟨A,cc,rfl⟩:=Sl.len' (ho.sl iC_len)
   clear ho
   have HR:=Lib.hid (show (dropcT c).run s=(freesT ps).run s2 from run_bind_ok HV.out)
   go_wp2_with fail
   go_loopw [21] (fun iv wr=>∃ (k:Nat) (s3:Sf),k≤ps.length∧iv=.int .i64 k∧(dropcT c).run s=(freesT (ps.drop k)).run s3∧ShIs wr gs gm s3∧Own iC 1 3 w.heap.size wr (.slice A ps.length cc) ps∧Ch (fun k=>k=gs∨k=gm) w wr) (fun iv _=>ps.length - (intOf iv).toNat)
   case atStart=>exact ⟨0,s2,Nat.zero_le _,rfl,HR.out,HS.out,HO.out,HC2.out⟩
   case round=>
    obtain ⟨k,s3,hk,rfl,hr,hs,ho,hch⟩:=hrel
    have HRK:=Lib.hid hr
    have HSK:=Lib.hid hs
    have HOK:=Lib.hid ho
    have HCK:=Lib.hid hch
    clear hr hs hch
    have hmx:ps.length≤maxLen:=by
     rcases ho.2 with ⟨_,h0⟩ | ⟨g,cap,cur,_,_,_,h1,h2,_⟩
     ·omega
     ·omega
    unfold maxLen at hmx
    by_cases hlt:k<ps.length
    ·obtain ⟨b,off,c',he,hbl,hcells⟩:=(ho.sl iC_len).at1 hlt
     injection he with he1 he2 he3
     subst he1 he3
     have e0:wr.cell? ⟨b,off+k,none⟩=some (.int .i64 ps[k]):=by simpa [iC] using hcells 0 _ rfl
     have hk0:(0:Int)≤(k:Int):=by omega
     have hk1:(k:Int)<(ps.length:Int):=by omega
     have HD:=Lib.hid (show ps.drop k=ps[k] :: ps.drop (k+1) from List.drop_eq_getElem_cons hlt)
     have HRF:=Lib.hid (show (dropcT c).run s=if freeE s3 ps[k]=0 then (freesT (ps.drop (k+1))).run (freeS s3 ps[k]) else (freeS s3 ps[k],.err (freeE s3 ps[k])) by rw [HRK.out,HD.out];rfl)
     have hlw:=HOK.out.lt
     clear hcells ho
     generalize ps[k]=x at *
     go_wp2_with fail
     refine (sFree_any gs gm s3 x wr HSK.out).mono ?_
     rintro e w5 ⟨rfl,hs5,hc5⟩
     have HS5:=Lib.hid hs5
     have HO5:=Lib.hid (HOK.out.ch hc5 (fun j hj e=>by have:=(hlw j hj).1;rcases e with e | e <;> omega))
     have HC5:=Lib.hid (HCK.out.trans hc5)
     clear hs5 hc5 e0
     by_cases hz:freeE s3 x=0
     ·rw [hz]
      have HRZ:=Lib.hid (show (dropcT c).run s=(freesT (ps.drop (k+1))).run (freeS s3 x) by rw [HRF.out,if_pos hz])
      go_wp2_with fail
      go_roundw
      case rel=>exact ⟨k+1,freeS s3 x,by omega,by go_num,HRZ.out,HS5.out,HO5.out,HC5.out⟩
      case measure=>simp [intOf];omega
     ·have HRZ:=Lib.hid (show (dropcT c).run s=(freeS s3 x,.err (freeE s3 x)) by rw [HRF.out,if_neg hz])
      generalize freeE s3 x=ee at *
      have hz1:(ee == 0)=false:=by simpa using hz
      go_wp2_with fail
      go_ret
      rw [HRZ.out]
      exact ⟨rfl,HS5.out,HC5.out⟩
    ·have HRZ:=Lib.hid (show (dropcT c).run s=(s3,.ok ()) by rw [HRK.out,List.drop_eq_nil_of_le (by omega)];rfl)
     have hk1:(ps.length:Int)≤(k:Int):=by omega
     clear ho
     go_wp2_with fail
     go_ret
     rw [HRZ.out]
     exact ⟨rfl,HSK.out,HCK.out⟩
 | err x=>
   obtain rfl:=hp
   have hx0:¬ x=0:=HNE.out x rfl
   have hx1:(x == 0)=false:=by simpa using hx0
   have HR:=Lib.hid (show (dropcT c).run s=(s2,.err x) from run_bind_err HV.out)
   go_wp2_with fail
   go_ret
   rw [HR.out]
   exact ⟨rfl,HS.out,HC2.out⟩
end Go.Proofs.YtknioodagnjchaaGreatDoor
namespace Go.Proofs.YtknioodagnjchaaGreatDoor
open Go.RowKit
theorem enc_bad (n:Nd):(¬ encE n=0)=(goodN n=false∨232<(bytesN n).length):=by
 unfold encE
 cases goodN n <;> by_cases h:232<(bytesN n).length <;> simp [h]
theorem twrite_any (at_:Int) (n:Nd) (v:Value) (gs gm:Nat) (s:Sf) (w:World) (hS:ShIs w gs gm s) (h:NdV w v n) (hb:n.Bd):
  Calls Tryz.prog 66 #[shV gs,.int .i64 at_,v] w fun e w'=>e=.returned (errV ((writeT at_ n).run s).2)∧ShIs w' gs gm ((writeT at_ n).run s).1∧Ch (fun k=>k=gs∨k=gm) w w':=by
 obtain ⟨vk,vc,vd,rfl,hs⟩:=h
 have HW0:=Lib.hid ((Below.refl _ w).alloc (Nat.le_refl _) (ndB n vk vc vd))
 have HG0:=Lib.hid (blk_new (w0:=w) (g:=w.heap.size) (o:=ndB n vk vc vd) rfl)
 have HS0:=Lib.hid (hs.keep HW0.out)
 have HB:=Lib.hid hb
 have HA0:=Lib.hid (hS.ch (S:=fun _=>False) (Ch.of_below HW0.out) id id)
 clear hs hb hS
 unfold shV
 go_enter Tryz.func66,Tryz.ntmps66
 go_upto_region 1 with fail
 generalize hw1:w.alloc (.cells #[.bool n.leaf,vk,vc,vd] 110)=w1 at *
 have hw2:w.alloc (ndB n vk vc vd)=w1:=hw1
 rw [hw2] at HW0 HG0 HS0 HA0
 clear hw1 hw2
 obtain ⟨a0,a1,a2,a3,a4⟩:=nd_cells HG0.out
 go_wp2_with fail
 refine (encode_any n _ w1 ⟨vk,vc,vd,rfl,HS0.out⟩ HB.out).mono ?_
 rintro e w2 ⟨rfl,hb⟩
 have HA2:=Lib.hid (HA0.out.ch (S:=fun _=>False) (Ch.of_below hb) id id)
 have HC2:=Lib.hid ((Ch.of_below (S:=fun k=>k=gs∨k=gm) HW0.out).trans (Ch.of_below hb))
 clear hb a0 a1 a2 a3 a4
 by_cases he:encE n=0
 ·have HV:=Lib.hid (show writeT at_ n=.put at_ (fullL (bytesN n)) .pure by
   unfold writeT
   rw [if_neg (fun h=>by rw [← enc_bad] at h;exact h he)])
  have HL:=Lib.hid (show encL n=fullL (bytesN n) by unfold encL;rw [if_pos he])
  rw [he,HL.out]
  go_wp2_with fail
  refine (sPut_any at_ (mkS (fullL (bytesN n))) gs gm s w2 HA2.out).mono ?_
  rw [bs_mkS]
  rintro e w3 ⟨rfl,hs,hc⟩
  have HS3:=Lib.hid hs
  have HC3:=Lib.hid (HC2.out.trans hc)
  clear hs hc
  go_wp2_with fail
  go_ret
  rw [HV.out]
  by_cases hp:putE s at_ (fullL (bytesN n))=0
  ·simp only [Pro.run,if_pos hp]
   rw [hp]
   exact ⟨rfl,HS3.out,HC3.out⟩
  ·simp only [Pro.run,if_neg hp]
   exact ⟨rfl,HS3.out,HC3.out⟩
 ·have HV:=Lib.hid (show writeT at_ n=.fail 30 by
   unfold writeT
   rw [if_pos (by rw [← enc_bad];exact he)])
  generalize encE n=ee at *
  have he2:(ee == 0)=false:=by simpa using he
  go_wp2_with fail
  go_ret
  rw [HV.out]
  exact ⟨rfl,HA2.out,HC2.out⟩
end Go.Proofs.YtknioodagnjchaaGreatDoor
namespace Go.Proofs.YtknioodagnjchaaGreatDoor
open Go.RowKit
structure Nd.Sm (m:Nat) (n:Nd):Prop where
 k:n.keys.length≤m
 c:n.cells.length≤m
 d:n.kids.length≤m+1
 kl:∀ k ∈ n.keys,k.length≤64
 cl:∀ c ∈ n.cells,c.data.length≤40
theorem Nd.Sm.bd {m:Nat} {n:Nd} (h:n.Sm m) (hm:m≤1999):n.Bd:=⟨by have:=h.k;omega,by have:=h.c;omega,by have:=h.d;omega,fun k hk=>by have:=h.kl k hk;omega,fun c hc=>by have:=h.cl c hc;omega⟩
theorem Nd.Sm.mono {m m':Nat} {n:Nd} (h:n.Sm m) (hm:m≤m'):n.Sm m':=⟨by have:=h.k;omega,by have:=h.c;omega,by have:=h.d;omega,h.kl,h.cl⟩
theorem good_data {c:Ce} (h:goodC c=true):c.data.length≤40:=by
 by_cases h2:40<c.size
 ·rw [(goodC_page h h2).1];simp
 ·have:=goodC_in h h2;omega
theorem good_sm {n:Nd} (h:goodN n=true) {m:Nat} (hk:n.keys.length≤m):n.Sm m:=by
 cases hl:n.leaf
 ·obtain ⟨h1,h2,h3,h4,h5,h6⟩:=goodN_inner h hl
  exact ⟨hk,by rw [h4];simp,by omega,risesB_len h1,by rw [h4];simp⟩
 ·obtain ⟨h1,h2,h3,h4⟩:=goodN_leaf h hl
  exact ⟨hk,by omega,by rw [h3];simp,risesB_len h1,fun c hc=>good_data (h4 c hc)⟩
theorem dec_sm {l:By} {n:Nd} (h:decN l=some n):goodN n=true∧n.Sm 229:=by
 obtain ⟨h1,h2,_⟩:=decN_some h
 have:=keys_le_bytes h1
 exact ⟨h1,good_sm h1 (by omega)⟩
def ndZ:Value:=.agg #[.bool false,.slice none 0 0,.slice none 0 0,.slice none 0 0]
def RdP (base:Nat) (w:World) (e:Ending):Ans Nd→Prop
 | .ok n=>∃ v,e=.returned (.tuple #[v,.int .i64 0])∧NdO base w v n
 | .err x=>e=.returned (.tuple #[ndZ,.int .i64 x])
theorem ans_read {at_:Int} {s s':Sf} {n:Nd} (h:(readT at_).run s=(s',.ok n)):goodN n=true∧n.Sm 229:=by
 unfold readT at h
 simp only [Pro.run] at h
 split at h
 ·split at h
  ·cases h
  ·rename_i hd
   have:=dec_sm hd
   injection h with _ h
   injection h with h
   exact h ▸ this
 ·cases h
theorem NdO.below {base:Nat} {w w':World} {v:Value} {n:Nd} (h:NdO base w v n) (hb:Below w.heap.size w w'):NdO base w' v n:=by
 obtain ⟨vk,vc,vd,rfl,h1,h2,h3,h4⟩:=h
 exact ⟨vk,vc,vd,rfl,h1.below hb,h2.below hb,h3.below hb,h4⟩
theorem NdO.ch {base:Nat} {w w':World} {S:Nat→Prop} {v:Value} {n:Nd} (h:NdO base w v n) (hc:Ch S w w') (hs:∀ j,base≤j→¬ S j):NdO base w' v n:=by
 obtain ⟨vk,vc,vd,rfl,h1,h2,h3,h4⟩:=h
 exact ⟨vk,vc,vd,rfl,h1.ch hc (fun j hj=>hs j (h1.lt j hj).1),h2.ch hc (fun j hj=>hs j (h2.lt j hj).1),h3.ch hc (fun j hj=>hs j (h3.lt j hj).1),h4⟩
theorem NdO.base {base base':Nat} {w:World} {v:Value} {n:Nd} (h:NdO base w v n) (hb:base'≤base):NdO base' w v n:=by
 obtain ⟨vk,vc,vd,rfl,h1,h2,h3,h4⟩:=h
 exact ⟨vk,vc,vd,rfl,h1.base hb,h2.base hb,h3.base hb,h4⟩
theorem tread_any (at_:Int) (gs gm:Nat) (s:Sf) (w:World) (hS:ShIs w gs gm s):
  Calls Tryz.prog 58 #[shV gs,.int .i64 at_] w fun e w'=>RdP w.heap.size w' e ((readT at_).run s).2∧ShIs w' gs gm ((readT at_).run s).1∧Ch (fun k=>k=gs∨k=gm) w w':=by
 have HA:=Lib.hid (hS.ch (S:=fun _=>False) (Ch.alloc (Ch.refl _ w) (ndB Nd.zero (.slice none 0 0) (.slice none 0 0) (.slice none 0 0))) id id)
 have HZ:=Lib.hid (blk_new (w0:=w) (g:=w.heap.size) (o:=ndB Nd.zero (.slice none 0 0) (.slice none 0 0) (.slice none 0 0)) rfl)
 have HC:=Lib.hid (Ch.alloc (Ch.refl (fun k=>k=gs∨k=gm) w) (ndB Nd.zero (.slice none 0 0) (.slice none 0 0) (.slice none 0 0)))
 have hs1:w.heap.size<(w.alloc (ndB Nd.zero (.slice none 0 0) (.slice none 0 0) (.slice none 0 0))).heap.size:=by simp
 have hgs:=blk_lt hS.blk
 have hgm:=hS.book.lt
 have hl232:=hS.ok.l at_
 have HRT:=Lib.hid (show (readT at_).run s=if begE s at_=0 then (match decN (s.B at_) with | none=>(begS s,.err 30) | some n=>(begS s,.ok n)) else (begS s,.err (begE s at_)) by
  unfold readT
  simp only [Pro.run]
  cases decN (s.B at_) <;> rfl)
 clear hS
 unfold shV
 go_enter Tryz.func58,Tryz.ntmps58
 go_upto_region 1 with fail
 generalize hw1:w.alloc (.cells #[.bool false,.slice none 0 0,.slice none 0 0,.slice none 0 0] 110)=w1 at *
 have hw2:w.alloc (ndB Nd.zero (.slice none 0 0) (.slice none 0 0) (.slice none 0 0))=w1:=hw1
 rw [hw2] at HA HZ HC hs1
 clear hw1 hw2
 go_wp2_with fail
 refine (sGet_any at_ gs gm s w1 HA.out).mono ?_
 rintro e w2 ⟨rfl,hs,hc⟩
 have HS2:=Lib.hid hs
 have HC2:=Lib.hid (HC.out.trans (hc.mono (fun _ _ h=>.inl h)))
 have HZ2:=Lib.hid (hc.keep HZ.out (by omega))
 have hsz2:w1.heap.size≤w2.heap.size:=hc.size
 clear hs hc
 obtain ⟨o0,o1,o2,o3,o4⟩:=nd_cells HZ2.out
 have q0:=blk_frozen HZ2.out 0
 have q1:=blk_frozen HZ2.out 1
 have q2:=blk_frozen HZ2.out 2
 have q3:=blk_frozen HZ2.out 3
 simp only [Nd.zero] at o0
 by_cases hbe:begE s at_=0
 ·have HGV:=Lib.hid (show getV s at_=s.B at_ by unfold getV;rw [if_pos hbe])
  rw [HGV.out,hbe]
  have HR2:=Lib.hid (HRT.out.trans (if_pos hbe))
  generalize s.B at_=l at *
  go_wp2_with fail
  refine (decode_any l hl232 w2).mono ?_
  rintro e w3 ⟨v,c,rfl,hp,hb⟩
  have HS3:=Lib.hid (HS2.out.ch (S:=fun _=>False) (Ch.of_below hb) id id)
  have HC3:=Lib.hid (HC2.out.trans (Ch.of_below hb))
  have HZ3:=Lib.hid (blk_keep HZ2.out hb)
  have hsz3:w2.heap.size≤w3.heap.size:=hb.size
  clear hb o0 o1 o2 o3 o4 q0 q1 q2 q3
  cases hd:decN l with
  | none=>
    rw [hd] at hp
    obtain ⟨rfl,rfl⟩:=hp
    have HV:=Lib.hid (show (readT at_).run s=(begS s,.err 30) by rw [HR2.out,hd])
    have HZ4:=Lib.hid (blk_alloc HZ3.out (ndB Nd.zero (.slice none 0 0) (.slice none 0 0) (.slice none 0 0)))
    have HS4:=Lib.hid (HS3.out.ch (S:=fun _=>False) (Ch.alloc (Ch.refl _ w3) (ndB Nd.zero (.slice none 0 0) (.slice none 0 0) (.slice none 0 0))) id id)
    have HC4:=Lib.hid (Ch.alloc HC3.out (ndB Nd.zero (.slice none 0 0) (.slice none 0 0) (.slice none 0 0)))
    go_upto_region 5 with fail
    generalize hw1:w3.alloc (.cells #[.bool false,.slice none 0 0,.slice none 0 0,.slice none 0 0] 110)=w4 at *
    have hw2:w3.alloc (ndB Nd.zero (.slice none 0 0) (.slice none 0 0) (.slice none 0 0))=w4:=hw1
    rw [hw2] at HZ4 HS4 HC4
    clear hw1 hw2
    obtain ⟨o0,o1,o2,o3,o4⟩:=nd_cells HZ4.out
    have q0:=blk_frozen HZ4.out 0
    have q1:=blk_frozen HZ4.out 1
    have q2:=blk_frozen HZ4.out 2
    have q3:=blk_frozen HZ4.out 3
    simp only [Nd.zero] at o0
    go_wp2_with fail
    have hf:=blk_set (blk_set (blk_set (blk_set HZ4.out 0 (.bool false)) 1 (.slice none 0 0)) 2 (.slice none 0 0)) 3 (.slice none 0 0)
    obtain ⟨z0,z1,z2,z3,-⟩:=nd_cells (n:=Nd.zero) hf
    simp only [Nd.zero] at z0
    have HC0:=Lib.hid ((((Ch.refl (fun j=>j=w.heap.size) w4).setCell (p:=⟨w.heap.size,0,none⟩) rfl (.bool false)).setCell (p:=⟨w.heap.size,1,none⟩) rfl (.slice none 0 0)).setCell (p:=⟨w.heap.size,2,none⟩) rfl (.slice none 0 0) |>.setCell (p:=⟨w.heap.size,3,none⟩) rfl (.slice none 0 0))
    exact bodyPost_ret (v:=.tuple #[ndZ,.int .i64 30]) (by simp [results,Tryz.results58,go_sem,z0,z1,z2,z3,ndZ]) rfl
     ⟨by rw [HV.out];exact rfl,by rw [HV.out];exact HS4.out.ch HC0.out (by omega) (by omega),HC4.out.then HC0.out (fun i hi=>.inr (by omega))⟩
  | some n=>
    rw [hd] at hp
    obtain ⟨rfl,vk,vc,vd,rfl,h1,h2,h3,h4⟩:=hp
    obtain ⟨A1,c1,rfl⟩:=Sl.len' (h1.sl sC_len)
    obtain ⟨A2,c2,rfl⟩:=Sl.len' (h2.sl cC_len)
    obtain ⟨A3,c3,rfl⟩:=Sl.len' (h3.sl iC_len)
    have HV:=Lib.hid (show (readT at_).run s=(begS s,.ok n) by rw [HR2.out,hd])
    have HN:=Lib.hid (show NdO w2.heap.size w3 (.agg #[.bool n.leaf,.slice A1 n.keys.length c1,.slice A2 n.cells.length c2,.slice A3 n.kids.length c3]) n from ⟨_,_,_,rfl,h1,h2,h3,h4⟩)
    have HZ4:=Lib.hid (blk_alloc HZ3.out (ndB n (.slice A1 n.keys.length c1) (.slice A2 n.cells.length c2) (.slice A3 n.kids.length c3)))
    have HX4:=Lib.hid (blk_new (w0:=w3) (g:=w3.heap.size) (o:=ndB n (.slice A1 n.keys.length c1) (.slice A2 n.cells.length c2) (.slice A3 n.kids.length c3)) rfl)
    have HS4:=Lib.hid (HS3.out.ch (S:=fun _=>False) (Ch.alloc (Ch.refl _ w3) (ndB n (.slice A1 n.keys.length c1) (.slice A2 n.cells.length c2) (.slice A3 n.kids.length c3))) id id)
    have HC4:=Lib.hid (Ch.alloc HC3.out (ndB n (.slice A1 n.keys.length c1) (.slice A2 n.cells.length c2) (.slice A3 n.kids.length c3)))
    have HN4:=Lib.hid (HN.out.below ((Below.refl _ w3).alloc (Nat.le_refl _) (ndB n (.slice A1 n.keys.length c1) (.slice A2 n.cells.length c2) (.slice A3 n.kids.length c3))))
    clear h1 h2 h3 h4 hd
    go_upto_region 5 with fail
    generalize hw1:w3.alloc (.cells #[.bool n.leaf,.slice A1 n.keys.length c1,.slice A2 n.cells.length c2,.slice A3 n.kids.length c3] 110)=w4 at *
    have hw2:w3.alloc (ndB n (.slice A1 n.keys.length c1) (.slice A2 n.cells.length c2) (.slice A3 n.kids.length c3))=w4:=hw1
    rw [hw2] at HZ4 HS4 HC4 HX4 HN4
    clear hw1 hw2
    obtain ⟨o0,o1,o2,o3,o4⟩:=nd_cells HZ4.out
    obtain ⟨a0,a1,a2,a3,a4⟩:=nd_cells HX4.out
    have q0:=blk_frozen HZ4.out 0
    have q1:=blk_frozen HZ4.out 1
    have q2:=blk_frozen HZ4.out 2
    have q3:=blk_frozen HZ4.out 3
    simp only [Nd.zero] at o0
    go_wp2_with fail
    have hf:=blk_set (blk_set (blk_set (blk_set HZ4.out 0 (.bool n.leaf)) 1 (.slice A1 n.keys.length c1)) 2 (.slice A2 n.cells.length c2)) 3 (.slice A3 n.kids.length c3)
    obtain ⟨z0,z1,z2,z3,-⟩:=nd_cells (n:=n) hf
    have HC0:=Lib.hid ((((Ch.refl (fun j=>j=w.heap.size) w4).setCell (p:=⟨w.heap.size,0,none⟩) rfl (.bool n.leaf)).setCell (p:=⟨w.heap.size,1,none⟩) rfl (.slice A1 n.keys.length c1)).setCell (p:=⟨w.heap.size,2,none⟩) rfl (.slice A2 n.cells.length c2) |>.setCell (p:=⟨w.heap.size,3,none⟩) rfl (.slice A3 n.kids.length c3))
    exact bodyPost_ret (v:=.tuple #[.agg #[.bool n.leaf,.slice A1 n.keys.length c1,.slice A2 n.cells.length c2,.slice A3 n.kids.length c3],.int .i64 0]) (by simp [results,Tryz.results58,go_sem,z0,z1,z2,z3]) rfl
     ⟨by
       rw [HV.out]
       exact ⟨_,rfl,(HN4.out.ch HC0.out (fun j hj e=>by omega)).base (by omega)⟩,
      by rw [HV.out];exact HS4.out.ch HC0.out (by omega) (by omega),HC4.out.then HC0.out (fun i hi=>.inr (by omega))⟩
 ·have HV:=Lib.hid (HRT.out.trans (if_neg hbe))
  generalize begE s at_=be at *
  generalize getV s at_=gv at *
  have hbe2:(be == 0)=false:=by simpa using hbe
  go_wp2_with fail
  have hf:=blk_set (blk_set (blk_set (blk_set HZ2.out 0 (.bool false)) 1 (.slice none 0 0)) 2 (.slice none 0 0)) 3 (.slice none 0 0)
  obtain ⟨z0,z1,z2,z3,-⟩:=nd_cells (n:=Nd.zero) hf
  simp only [Nd.zero] at z0
  have HC0:=Lib.hid ((((Ch.refl (fun j=>j=w.heap.size) w2).setCell (p:=⟨w.heap.size,0,none⟩) rfl (.bool false)).setCell (p:=⟨w.heap.size,1,none⟩) rfl (.slice none 0 0)).setCell (p:=⟨w.heap.size,2,none⟩) rfl (.slice none 0 0) |>.setCell (p:=⟨w.heap.size,3,none⟩) rfl (.slice none 0 0))
  exact bodyPost_ret (v:=.tuple #[ndZ,.int .i64 be]) (by simp [results,Tryz.results58,go_sem,z0,z1,z2,z3,ndZ]) rfl
   ⟨by rw [HV.out];exact rfl,by rw [HV.out];exact HS2.out.ch HC0.out (by omega) (by omega),HC2.out.then HC0.out (fun i hi=>.inr (by omega))⟩
theorem kid_any (n:Nd) (k:By) (v:Value) (w:World) (h:NdV w v n) (hb:n.Bd) (hg:goodN n=true):Calls Tryz.prog 59 #[v,.string (mkS k)] w fun e w'=>e=.returned (.int .i64 (kidN n k))∧Below w.heap.size w w':=by
 have HGD:=Lib.hid hg
 have HLB:=Lib.hid (show lbN n.keys k≤n.keys.length from (List.takeWhile_sublist _).length_le)
 clear hg
 obtain ⟨vk,vc,vd,rfl,hs⟩:=h
 have HW0:=Lib.hid ((Below.refl _ w).alloc (Nat.le_refl _) (ndB n vk vc vd))
 have HG0:=Lib.hid (blk_new (w0:=w) (g:=w.heap.size) (o:=ndB n vk vc vd) rfl)
 have HS0:=Lib.hid (hs.keep HW0.out)
 have HB:=Lib.hid hb
 clear hs hb
 go_enter Tryz.func59,Tryz.ntmps59
 go_upto_region 1 with fail
 generalize hw1:w.alloc (.cells #[.bool n.leaf,vk,vc,vd] 110)=w1 at *
 have hw2:w.alloc (ndB n vk vc vd)=w1:=hw1
 rw [hw2] at HW0 HG0 HS0
 clear hw1 hw2
 obtain ⟨a0,a1,a2,a3,a4⟩:=nd_cells HG0.out
 go_wp2_with fail
 refine (find_any n k _ w1 ⟨vk,vc,vd,rfl,HS0.out⟩ HB.out HGD.out).mono ?_
 rintro e w2 ⟨rfl,hb⟩
 have HW2:=Lib.hid (HW0.out.trans (hb.mono HW0.out.size))
 clear hb a0 a1 a2 a3 a4
 have hbk:=HB.out.k
 have hlb:=HLB.out
 cases hi:isN n.keys k
 ·have HV:=Lib.hid (show kidN n k=lbN n.keys k by unfold kidN;rw [hi];rfl)
  go_wp2_with fail
  go_ret
  exact ⟨by rw [HV.out];rfl,HW2.out⟩
 ·have HV:=Lib.hid (show kidN n k=lbN n.keys k+1 by unfold kidN;rw [hi];rfl)
  go_wp2_with fail
  go_ret
  exact ⟨by rw [HV.out];go_num,HW2.out⟩
theorem tsize_any (n:Nd) (v:Value) (w:World) (h:NdV w v n) (hb:n.Bd):Calls Tryz.prog 174 #[v] w fun e w'=>e=.returned (.int .i64 (tsize n))∧Below w.heap.size w w':=by
 obtain ⟨vk,vc,vd,rfl,hs⟩:=h
 obtain ⟨A1,c1,rfl⟩:=Sl.len' hs.k
 have HT:=Lib.hid (show tsize n=if n.leaf=false∧n.keys.length=0 then 0 else sizeN n by
  unfold tsize
  cases n.leaf <;> cases n.keys <;> simp)
 have HW0:=Lib.hid ((Below.refl _ w).alloc (Nat.le_refl _) (ndB n (.slice A1 n.keys.length c1) vc vd))
 have HG0:=Lib.hid (blk_new (w0:=w) (g:=w.heap.size) (o:=ndB n (.slice A1 n.keys.length c1) vc vd) rfl)
 have HS0:=Lib.hid (hs.keep HW0.out)
 have HB:=Lib.hid hb
 have hbk:=hb.k
 clear hs hb
 go_enter Tryz.func174,Tryz.ntmps174
 go_upto_region 1 with fail
 generalize hw1:w.alloc (.cells #[.bool n.leaf,.slice A1 n.keys.length c1,vc,vd] 110)=w1 at *
 have hw2:w.alloc (ndB n (.slice A1 n.keys.length c1) vc vd)=w1:=hw1
 rw [hw2] at HW0 HG0 HS0
 clear hw1 hw2
 obtain ⟨a0,a1,a2,a3,a4⟩:=nd_cells HG0.out
 have HSZ:=Lib.hid ((size_any n _ w1 ⟨_,vc,vd,rfl,HS0.out⟩ HB.out))
 cases hl:n.leaf
 ·rw [hl] at a0 HSZ
  by_cases hk:n.keys.length=0
  ·have HV:=Lib.hid (show tsize n=0 by rw [HT.out,if_pos ⟨hl,hk⟩])
   have hk2:((n.keys.length:Int) == 0)=true:=by rw [hk];rfl
   go_wp2_with fail
   go_ret
   exact ⟨by rw [HV.out];rfl,HW0.out⟩
  ·have HV:=Lib.hid (show tsize n=sizeN n by rw [HT.out,if_neg (fun h=>hk h.2)])
   have hk2:((n.keys.length:Int) == 0)=false:=by simpa using hk
   go_wp2_with fail
   refine HSZ.out.mono ?_
   rintro e w2 ⟨rfl,hb⟩
   have HW2:=Lib.hid (HW0.out.trans (hb.mono HW0.out.size))
   clear hb a0 a1 a2 a3 a4
   go_wp2_with fail
   go_ret
   exact ⟨by rw [HV.out];rfl,HW2.out⟩
 ·have HV:=Lib.hid (show tsize n=sizeN n by rw [HT.out,if_neg (fun h=>by rw [hl] at h;cases h.1)])
  rw [hl] at a0 HSZ
  go_wp2_with fail
  refine HSZ.out.mono ?_
  rintro e w2 ⟨rfl,hb⟩
  have HW2:=Lib.hid (HW0.out.trans (hb.mono HW0.out.size))
  clear hb a0 a1 a2 a3 a4
  go_wp2_with fail
  go_ret
  exact ⟨by rw [HV.out];rfl,HW2.out⟩
theorem fits_any (n:Nd) (v:Value) (w:World) (h:NdV w v n) (hb:n.Bd):Calls Tryz.prog 136 #[v] w fun e w'=>e=.returned (.bool (fitsN n))∧Below w.heap.size w w':=by
 obtain ⟨vk,vc,vd,rfl,hs⟩:=h
 have HW0:=Lib.hid ((Below.refl _ w).alloc (Nat.le_refl _) (ndB n vk vc vd))
 have HG0:=Lib.hid (blk_new (w0:=w) (g:=w.heap.size) (o:=ndB n vk vc vd) rfl)
 have HS0:=Lib.hid (hs.keep HW0.out)
 have HB:=Lib.hid hb
 clear hs hb
 go_enter Tryz.func136,Tryz.ntmps136
 go_upto_region 1 with fail
 generalize hw1:w.alloc (.cells #[.bool n.leaf,vk,vc,vd] 110)=w1 at *
 have hw2:w.alloc (ndB n vk vc vd)=w1:=hw1
 rw [hw2] at HW0 HG0 HS0
 clear hw1 hw2
 obtain ⟨a0,a1,a2,a3,a4⟩:=nd_cells HG0.out
 go_wp2_with fail
 refine (tsize_any n _ w1 ⟨vk,vc,vd,rfl,HS0.out⟩ HB.out).mono ?_
 rintro e w2 ⟨rfl,hb⟩
 have HW2:=Lib.hid (HW0.out.trans (hb.mono HW0.out.size))
 clear hb a0 a1 a2 a3 a4
 have HV:=Lib.hid (show fitsN n=decide ((tsize n:Int)≤232) by
  unfold fitsN
  by_cases h:tsize n≤232
  ·rw [decide_eq_true h,decide_eq_true (by omega)]
  ·rw [decide_eq_false h,decide_eq_false (by omega)])
 generalize tsize n=m at *
 go_wp2_with fail
 go_ret
 exact ⟨by rw [HV.out];rfl,HW2.out⟩
end Go.Proofs.YtknioodagnjchaaGreatDoor
namespace Go.Proofs.YtknioodagnjchaaGreatDoor
open Go.RowKit
def MkP (e:Ending):Ans Int→Prop
 | .ok n=>e=.returned (.tuple #[.int .i64 n,.int .i64 0])
 | .err x=>e=.returned (.tuple #[.int .i64 0,.int .i64 x])
def ndL:Value:=.agg #[.bool true,.slice none 0 0,.slice none 0 0,.slice none 0 0]
theorem ndL_v (w:World):NdV w ndL ⟨true,[],[],[]⟩:=⟨_,_,_,rfl,Sl.nil,Sl.nil,Sl.nil⟩
theorem makeT_eq (s:Sf):makeT.run s=if newE s=0 then (match ((writeT (newN s) ⟨true,[],[],[]⟩).run (newSt s)).2 with | .ok _=>(((writeT (newN s) ⟨true,[],[],[]⟩).run (newSt s)).1,.ok (newN s)) | .err x=>(((writeT (newN s) ⟨true,[],[],[]⟩).run (newSt s)).1,.err x)) else (newSt s,.err (newE s)):=by
 unfold makeT
 simp only [Pro.run,run_bind]
 cases ((writeT (newN s) ⟨true,[],[],[]⟩).run (newSt s)).2 <;> rfl
theorem writeT_nz (a:Int) (n:Nd):(writeT a n).NZ:=by
 unfold writeT
 split
 ·exact show (30:Int)≠0 by decide
 ·trivial
theorem make_any (gs gm:Nat) (s:Sf) (w:World) (hS:ShIs w gs gm s):
  Calls Tryz.prog 24 #[shV gs] w fun e w'=>MkP e (makeT.run s).2∧ShIs w' gs gm (makeT.run s).1∧Ch (fun k=>k=gs∨k=gm) w w':=by
 have HRT:=Lib.hid (makeT_eq s)
 have HS:=Lib.hid hS
 have hnz:=Pro.NZ.run (writeT (newN s) ⟨true,[],[],[]⟩) (newSt s)
 clear hS
 unfold shV
 go_enter Tryz.func24,Tryz.ntmps24
 go_wp2_with fail
 refine (sNew_any gs gm s w HS.out).mono ?_
 rintro e w1 ⟨rfl,hs,hc⟩
 have HS1:=Lib.hid hs
 have HC1:=Lib.hid hc
 clear hs hc
 by_cases hbe:newE s=0
 ·have HR:=Lib.hid (HRT.out.trans (if_pos hbe))
  rw [hbe]
  go_wp2_with fail
  refine (twrite_any (newN s) ⟨true,[],[],[]⟩ _ gs gm (newSt s) w1 HS1.out (ndL_v w1) ⟨by simp,by simp,by simp,by simp,by simp⟩).mono ?_
  rintro e w2 ⟨rfl,hs,hc⟩
  have HS2:=Lib.hid hs
  have HC2:=Lib.hid (HC1.out.trans hc)
  clear hs hc
  obtain ⟨⟨s2,a⟩,hx⟩:∃ x,(writeT (newN s) ⟨true,[],[],[]⟩).run (newSt s)=x:=⟨_,rfl⟩
  rw [hx] at HS2 HR hnz
  cases a with
  | ok u=>
    simp only [errV]
    go_wp2_with fail
    go_ret2
    rw [HR.out]
    exact ⟨rfl,HS2.out,HC2.out⟩
  | err x=>
    have hx0:¬ x=0:=hnz x (writeT_nz _ _) rfl
    have hx1:(x == 0)=false:=by simpa using hx0
    simp only [errV]
    go_wp2_with fail
    go_ret2
    rw [HR.out]
    exact ⟨rfl,HS2.out,HC2.out⟩
 ·have HR:=Lib.hid (HRT.out.trans (if_neg hbe))
  generalize newE s=be at *
  have hbe2:(be == 0)=false:=by simpa using hbe
  go_wp2_with fail
  go_ret2
  rw [HR.out]
  exact ⟨rfl,HS1.out,HC1.out⟩
def GetP (e:Ending):Ans (Option By)→Prop
 | .ok (some v)=>e=.returned (.tuple #[.string (mkS v),.bool true,.int .i64 0])
 | .ok none=>e=.returned (.tuple #[.string ⟨#[]⟩,.bool false,.int .i64 0])
 | .err x=>e=.returned (.tuple #[.string ⟨#[]⟩,.bool false,.int .i64 x])
theorem readT_run_nz {a:Int} {s:Sf}:∀ x,((readT a).run s).2=.err x→x≠0:=fun x=>Pro.NZ.run _ s x (readT_nz a)
theorem walkT_run_nz {c:Ce} {s:Sf}:∀ x,((walkT c).run s).2=.err x→x≠0:=fun x=>Pro.NZ.run _ s x (walkT_nz c)
end Go.Proofs.YtknioodagnjchaaGreatDoor
