/- tree: list, List, Drop. The tree's calls, where what they do to their pages is known. -/
import Derived.Test.YtknioodagnjchaaGreatDoorRCb
import Derived.Test.YtknioodagnjchaaGreatDoorRTCut0
import Derived.Test.YtknioodagnjchaaGreatDoorRPl
import Derived.Test.YtknioodagnjchaaGreatDoorRTPutDel
set_option maxRecDepth 100000
set_option maxHeartbeats 8000000
namespace Go.Proofs.YtknioodagnjchaaGreatDoor
open Go.Lib (hid)
open Go.RowKit
def uf (base:Nat) (w w':World) (vout:Value) (e:Ending):Ans (List Int)→Prop
 | .ok l=>∃ v,e=.returned (.tuple #[v,.int .i64 0])∧Own iC 1 3 base w' v l∧l.length≤10000∧∀ k,v.ownBlock=some k→vout.ownBlock=some k∨w.heap.size≤k
 | .err x=>e=.returned (.tuple #[.slice none 0 0,.int .i64 x])∧x≠0
def mf (gs gm:Nat) (vout:Value):Nat→Prop:=fun k=>k=gs∨k=gm∨vout.ownBlock=some k
theorem gB (f:Nat) (a:Int) (o:List Int):bq (f+1) a o=(aV a).bind fun n=>if 4096≤o.length then .fail 30 else (dO n.cells (o ++ [a])).bind (dK f n.kids):=by
 show (aV a).bind _=_;congr 1;funext n
 split
 ·rfl
 ·congr 1;funext o;rw [jb];rfl
theorem qp {α β:Type} {P:α→Prop} {Q:β→Prop}:∀ (p:Pro α) (f:α→Pro β),(∀ s s' a,p.run s=(s',.ok a)→P a)→(∀ a,P a→∀ s s' b,(f a).run s=(s',.ok b)→Q b)→∀ s s' b,(p.bind f).run s=(s',.ok b)→Q b:=fun p f h1 h2 s s' b h=>by
 rw [run_bind] at h;obtain ⟨⟨s1,a⟩,hx⟩:∃ x,p.run s=x:=⟨_,rfl⟩;rw [hx] at h;cases a with
 | ok a=>exact h2 a (h1 _ _ _ hx) _ _ _ h
 | err e=>cases h
theorem o7:∀ (f left:Nat) (a:Int) (s s':Sf) (r:By × List Int),(jw f left a).run s=(s',.ok r)→r.2.length≤f
 | 0,left,a,s,s',r,h=>by cases h;exact Nat.le_refl _
 | f+1,left,a,s,s',r,h=>by
   unfold jw at h
   split at h
   ·cases h;exact Nat.zero_le _
   ·simp only [Pro.run] at h
    split at h
    ·split at h
     ·cases h
     ·exact qp (P:=fun r=>r.2.length≤f) (Q:=fun r=>r.2.length≤f+1) _ _ (fun s s' a h=>o7 f _ _ s s' a h) (fun a ha s s' b hb=>by cases hb;simp only [List.length_cons];omega) _ _ _ h
    ·cases h
theorem pj (c:Ce) (s s':Sf) (r:By × List Int) (h:(bb c).run s=(s',.ok r)):r.2.length≤23:=by
 unfold bb at h
 split at h
 ·cases h
 ·split at h
  ·cases h;exact Nat.zero_le _
  ·exact o7 _ _ _ _ _ _ h
theorem lI:∀ (cs:List Ce) (o:List Int),(dO cs o).NZ
 | [],_=>trivial
 | c :: cs,_=>Pro.NZ.bind _ _ (im c) (fun _=>lI cs _)
theorem m6 {f:Nat} (h:∀ a o,(bq f a o).NZ):∀ (ks:List Int) (o:List Int),(dK f ks o).NZ
 | [],_=>trivial
 | k :: ks,o=>Pro.NZ.bind _ _ (h k o) (fun o=>m6 h ks o)
theorem i9:∀ (f:Nat) (a:Int) (o:List Int),(bq f a o).NZ
 | 0,a,o=>Pro.NZ.bind _ _ (eo a) (fun _=>show (30:Int)≠0 by decide)
 | f+1,a,o=>by
   rw [gB];refine Pro.NZ.bind _ _ (eo a) (fun n=>?_)
   split
   ·exact show (30:Int)≠0 by decide
   ·exact Pro.NZ.bind _ _ (lI _ _) (fun o=>m6 (i9 f) _ o)
theorem lw (f:Nat) (at_:Int) (base gs gm:Nat) (o0:List Int) (vout:Value) (s:Sf) (w:World) (hf:f≤20) (hS:ShIs w gs gm s) (hO:Own iC 1 3 base w vout o0) (hb:base≤w.heap.size) (hlen:o0.length≤10000) (hg1:vout.ownBlock≠some gs) (hg2:vout.ownBlock≠some gm)
  (ih:∀ f',f'+1=f→∀ (at_:Int) (o0:List Int) (vout:Value) (s:Sf) (w:World),ShIs w gs gm s→Own iC 1 3 base w vout o0→base≤w.heap.size→o0.length≤10000→vout.ownBlock≠some gs→vout.ownBlock≠some gm→Calls Tryz.prog 76 #[bV gs,.int .i64 at_,.int .i64 (21 - f':Int),vout] w fun e w'=>uf base w w' vout e ((bq f' at_ o0).run s).2∧ShIs w' gs gm ((bq f' at_ o0).run s).1∧Ch (mf gs gm vout) w w'):
  Calls Tryz.prog 76 #[bV gs,.int .i64 at_,.int .i64 (21 - f:Int),vout] w fun e w'=>uf base w w' vout e ((bq f at_ o0).run s).2∧ShIs w' gs gm ((bq f at_ o0).run s).1∧Ch (mf gs gm vout) w w':=by
 have HS:=hid hS;have HO:=hid hO;have HIH:=hid ih;have HG:=hid (show vout.ownBlock≠some gs∧vout.ownBlock≠some gm from ⟨hg1,hg2⟩);have HNZ:=hid (show ∀ x,((bq f at_ o0).run s).2=.err x→x≠0 from fun x=>Pro.NZ.run _ s x (i9 f at_ o0));have hgs:=aj hS.blk;have hgm:=hS.book.lt;obtain ⟨A,c,rfl⟩:=Sl.len' (hO.sl aA);generalize hlv:(21 - (f:Int))=lv at *;have HLV:=hid hlv;have hlv0:1≤lv:=by omega
 have hlv1:lv≤21:=by omega
 have HRD:=hid (cK at_ gs gm s w hS);unfold bV at HRD ⊢;clear hlv hS hO ih hg1 hg2;go_enter Tryz.func76,Tryz.ntmps76;go_wp2_with fail;refine HRD.out.mono ?_;rintro e w2 ⟨hp,hs,hc⟩;have hrz:=bL (a:=at_) (s:=s);obtain ⟨⟨s2,a⟩,hx⟩:∃ x,(aV at_).run s=x:=⟨_,rfl⟩;rw [hx] at hp hs hrz;have HS2:=hid hs;have HC2:=hid (show Ch (mf gs gm (.slice A o0.length c)) w w2 from hc.mono (fun _ _ e=>e.elim .inl (fun e=>.inr (.inl e))));have HO2:=hid (HO.out.ch hc (fun k hk e=>e.elim (fun e=>HG.out.1 (e ▸ hk)) (fun e=>HG.out.2 (e ▸ hk))));have HX:=hid hx;have hsz2:=hc.size;clear hs hc hx HRD;cases a with
 | err x=>
   obtain rfl:=hp;have hx0:¬ x=0:=hrz x rfl;have hx1:(x == 0)=false:=by simpa using hx0
   have HW:=hid (show (bq f at_ o0).run s=(s2,.err x) by
    cases f with
    | zero=>exact ak HX.out
    | succ f=>rw [gB];exact ak HX.out)
   have HS3:=hid (HS2.out.ch (S:=fun _=>False) (Ch.alloc (Ch.refl _ w2) (ap Nd.zero (.slice none 0 0) (.slice none 0 0) (.slice none 0 0))) id id);have HC3:=hid (Ch.alloc HC2.out (ap Nd.zero (.slice none 0 0) (.slice none 0 0) (.slice none 0 0)));simp only [mS];go_wp2_with fail;go_ret2;rw [HW.out];exact ⟨⟨rfl,hx0⟩,HS3.out,HC3.out⟩
 | ok n=>
   obtain ⟨v,rfl,ho⟩:=hp;have HNF:=hid ho.f;obtain ⟨vk,vc,vd,rfl,h1,h2,h3⟩:=ho.f;obtain ⟨hg,hsm⟩:=cU HX.out;have HSM:=hid hsm;have HRF:=hid (show ∀ p:Nd→Pro (List Int),((aV at_).bind p).run s=(p n).run s2 from fun p=>af HX.out);obtain ⟨A1,c1,rfl⟩:=Sl.len' h1.sl;obtain ⟨A2,c2,rfl⟩:=Sl.len' h2.sl;obtain ⟨A3,c3,rfl⟩:=Sl.len' h3.sl;clear ho h1 h2 h3 hg hsm hrz;have HX3:=hid (ag (w0:=w2) (g:=w2.heap.size) (o:=ap n (.slice A1 n.keys.length c1) (.slice A2 n.cells.length c2) (.slice A3 n.kids.length c3)) rfl);have HS3:=hid (HS2.out.ch (S:=fun _=>False) (Ch.alloc (Ch.refl _ w2) (ap n (.slice A1 n.keys.length c1) (.slice A2 n.cells.length c2) (.slice A3 n.kids.length c3))) id id);have HC3:=hid (Ch.alloc HC2.out (ap n (.slice A1 n.keys.length c1) (.slice A2 n.cells.length c2) (.slice A3 n.kids.length c3)));have HN3:=hid (HNF.out.keep ((Below.refl _ w2).alloc (Nat.le_refl _) (ap n (.slice A1 n.keys.length c1) (.slice A2 n.cells.length c2) (.slice A3 n.kids.length c3))));have HO3:=hid (HO2.out.alloc (ap n (.slice A1 n.keys.length c1) (.slice A2 n.cells.length c2) (.slice A3 n.kids.length c3)));have hsz3:w2.heap.size<(w2.alloc (ap n (.slice A1 n.keys.length c1) (.slice A2 n.cells.length c2) (.slice A3 n.kids.length c3))).heap.size:=by simp
   go_upto_region 2 with fail
   generalize hw1:w2.alloc (.cells #[.bool n.leaf,.slice A1 n.keys.length c1,.slice A2 n.cells.length c2,.slice A3 n.kids.length c3] 110)=w3 at *;have hw2:w2.alloc (ap n (.slice A1 n.keys.length c1) (.slice A2 n.cells.length c2) (.slice A3 n.kids.length c3))=w3:=hw1;rw [hw2] at HX3 HS3 HC3 HN3 HO3 hsz3;clear hw1 hw2;obtain ⟨a0,a1,a2,a3,a4⟩:=aa HX3.out;cases f with
   | zero=>
     have HW:=hid (show (bq 0 at_ o0).run s=(s2,.err 30) from HRF.out _);have hl1:20<lv:=by have:=HLV.out;omega
     go_wp2_with fail;go_ret2;rw [HW.out];exact ⟨⟨rfl,by decide⟩,HS3.out,HC3.out⟩
   | succ f=>
     have hl1:lv≤20:=by have:=HLV.out;omega
     have HRG:=hid (show (bq (f+1) at_ o0).run s=(if 4096≤o0.length then Pro.fail 30 else (dO n.cells (o0 ++ [at_])).bind (dK f n.kids)).run s2 by rw [gB];exact HRF.out _);by_cases h96:4096≤o0.length
     ·have HW:=hid (show (bq (f+1) at_ o0).run s=(s2,.err 30) by rw [HRG.out,if_pos h96];rfl);have h96i:(4096:Int)≤(o0.length:Int):=by omega
      go_wp2_with fail;go_ret2;rw [HW.out];exact ⟨⟨rfl,by decide⟩,HS3.out,HC3.out⟩
     ·have HW:=hid (show (bq (f+1) at_ o0).run s=((dO n.cells (o0 ++ [at_])).bind (dK f n.kids)).run s2 by rw [HRG.out,if_neg h96]);have h96i:(o0.length:Int)<4096:=by omega
      clear HRG HRF HX;go_wp2_with (at_builtin;refine Hid.out ?_);refine hid ?_;refine am rfl rfl bt rfl rfl (HO3.out.alloc _) (Sl.one at_ (by simp) aA (by rfl)) (by simp [maxLen];omega) (by simp;omega) (by simp;omega) ?_;intro v' w6 ho hgr hat;have HC6:=hid (show Ch (mf gs gm (.slice A o0.length c)) w3 w6 from (Ch.alloc (Ch.refl _ w3) (.cells #[.int .i64 at_] 3)).trans (Ch.of_grown hgr (fun k hk=>.inr (.inr hk))));have HS6:=hid (HS3.out.ch (S:=fun k=>(Value.slice A o0.length c).ownBlock=some k) ((Ch.alloc (Ch.refl _ w3) (.cells #[.int .i64 at_] 3)).trans (Ch.of_grown hgr (fun k hk=>hk))) HG.out.1 HG.out.2);have HO6:=hid ho
      have HV6:=hid (show ∀ k,v'.ownBlock=some k→(Value.slice A o0.length c).ownBlock=some k∨w3.heap.size≤k from fun k hk=>by
       rcases hat with e | e
       ·exact .inl (e ▸ hk)
       ·rw [e] at hk;injection hk with hk
        exact .inr (by rw [← hk];simp))
      have HFAR:=hid (show ∀ k,w.heap.size≤k→¬ mf gs gm (.slice A o0.length c) k from fun k hk e=>by
       rcases e with e | e | e
       ·omega
       ·omega
       ·have:=(HO.out.lt k e).2;omega)
      have HCS:=hid (show ∀ wr,Ch (mf gs gm (.slice A o0.length c)) w3 wr→Sl cC 3 wr (.slice A2 n.cells.length c2) n.cells∧Sl iC 1 wr (.slice A3 n.kids.length c3) n.kids∧wr.heap[w2.heap.size]?=some (ap n (.slice A1 n.keys.length c1) (.slice A2 n.cells.length c2) (.slice A3 n.kids.length c3)) from fun wr hc=>by
       obtain ⟨vk,vc,vd,e,i1,i2,i3⟩:=HN3.out.ch hc HFAR.out;injection e with e
       obtain ⟨rfl,rfl,rfl⟩:=oC e;exact ⟨i2.sl,i3.sl,hc.keep HX3.out (HFAR.out _ hsz2)⟩)
      have hol:o0.length<4096:=by omega
      clear ho hgr hat a0 a1 a2 a3 a4 HX3 HN3 HO3 HO2 HC2 HS2 HNF;obtain ⟨a0,a1,a2,a3,a4⟩:=aa (HCS.out _ HC6.out).2.2;go_wp2_with fail;go_loopw [3,43] (fun v iv wr=>∃ (k:Nat) (o:List Int) (s3:Sf),k≤n.cells.length∧iv=.int .i64 k∧o.length≤4096+23 * k∧(bq (f+1) at_ o0).run s=((dO (n.cells.drop k) o).bind (dK f n.kids)).run s3∧ShIs wr gs gm s3∧Own iC 1 3 base wr v o∧(∀ k,v.ownBlock=some k→(Value.slice A o0.length c).ownBlock=some k∨w3.heap.size≤k)∧Ch (mf gs gm (.slice A o0.length c)) w3 wr) (fun _ iv _=>n.cells.length - (intOf iv).toNat)
      case atStart=>exact ⟨0,o0 ++ [at_],s2,Nat.zero_le _,rfl,by simp;omega,HW.out,HS6.out,HO6.out,HV6.out,HC6.out⟩
      case round=>
       obtain ⟨k,o,s3,hk,rfl,hok,hr,hs,ho,hv,hc⟩:=hrel;obtain ⟨A4,c4,rfl⟩:=Sl.len' (ho.sl aA);have HRK:=hid hr;have HSK:=hid hs;have HOK:=hid ho;have HVK:=hid hv;have HCK:=hid hc;have hcn:=HSM.out.c;clear hr hs ho hv hc HC6 HS6 HO6 HV6 a0 a1 a2 a3 a4;by_cases hlt:k<n.cells.length
       ·obtain ⟨b,off,rfl,hbl,_,e0,e1,e2⟩:=(HCS.out _ HCK.out).1.cell3 hlt;have hk0:(0:Int)≤(k:Int):=by omega
        have hk1:(k:Int)<(n.cells.length:Int):=by omega
        have HD:=hid (show n.cells.drop k=n.cells[k] :: n.cells.drop (k+1) from List.drop_eq_getElem_cons hlt);have HRF:=hid (show (bq (f+1) at_ o0).run s=((bb n.cells[k]).bind fun r=>(dO (n.cells.drop (k+1)) (o ++ r.2)).bind (dK f n.kids)).run s3 by rw [HRK.out,HD.out];show (((bb n.cells[k]).bind fun r=>dO (n.cells.drop (k+1)) (o ++ r.2)).bind (dK f n.kids)).run s3=_;rw [ed]);have hdl:=HSM.out.cl _ (List.getElem_mem hlt);clear HD HRK;generalize n.cells[k]=x at *;have HXa:=hid (ag (w0:=wr) (g:=wr.heap.size) (o:=cF x) rfl);have HSa:=hid (HSK.out.ch (S:=fun _=>False) (Ch.alloc (Ch.refl _ wr) (cF x)) id id);have HOa:=hid (HOK.out.alloc (cF x));have HCa:=hid (Ch.alloc HCK.out (cF x));go_upto_region 10 with fail
        generalize hw1:wr.alloc (.cells #[.int .i64 x.size,.string (al x.data),.int .i64 x.page] 119)=wa at *;have hw2:wr.alloc (cF x)=wa:=hw1;rw [hw2] at HXa HSa HOa HCa;clear hw1 hw2 e0 e1 e2;obtain ⟨b0,b1,b2,b3,b4,b5,b6⟩:=aF HXa.out;go_wp2_with fail;refine (lF x gs gm s3 wa HSa.out (by omega)).mono ?_;rintro e w5 ⟨hp,hs,hc⟩;have hwz:=fF (c:=x) (s:=s3);obtain ⟨⟨s4,a⟩,hx⟩:∃ y,(bb x).run s3=y:=⟨_,rfl⟩;rw [hx] at hp hs hwz;have HX:=hid hx;have HS5:=hid hs
        have HVN:=hid (show ∀ j,(Value.slice A4 o.length c4).ownBlock=some j→j≠gs∧j≠gm from fun j hj=>by
         rcases HVK.out j hj with h | h
         ·exact ⟨fun e=>HG.out.1 (e ▸ h),fun e=>HG.out.2 (e ▸ h)⟩
         ·constructor <;> omega)
        have HO5:=hid (HOa.out.ch hc (fun j hj e=>e.elim (HVN.out j hj).1 (HVN.out j hj).2));have HC5:=hid (HCa.out.trans (hc.mono (fun _ _ e=>e.elim .inl (fun e=>.inr (.inl e)))));clear hs hc hx b0 b1 b2 b3 b4 b5 b6 HXa HSa HOa HCa;cases a with
        | err y=>
          obtain rfl:=hp;have hx0:¬ y=0:=hwz y rfl;have hx1:(y == 0)=false:=by simpa using hx0
          have HV:=hid (HRF.out.trans (ak HX.out));go_wp2_with fail;go_ret2;rw [HV.out];exact ⟨⟨rfl,hx0⟩,HS5.out,HC3.out.trans HC5.out⟩
        | ok r=>
          obtain ⟨d,ps⟩:=r;obtain ⟨vl,rfl,hl⟩:=hp;have hps:ps.length≤23:=pj _ _ _ _ HX.out;have HL:=hid (hl.sl aA);obtain ⟨A5,c5,rfl⟩:=Sl.len' HL.out;have HRR:=hid (show (bq (f+1) at_ o0).run s=((dO (n.cells.drop (k+1)) (o ++ ps)).bind (dK f n.kids)).run s4 from HRF.out.trans (af HX.out));have hb5:=HC5.out.size;clear hl HRF HX hwz;go_wp2_with (at_builtin;refine Hid.out ?_);refine hid ?_;refine am rfl rfl bt rfl rfl HO5.out HL.out (by unfold maxLen;omega) (by omega) (by omega) ?_;intro v6 w7 ho6 hgr hat;have HC6:=hid (HC5.out.then (Ch.of_grown (S:=fun j=>(Value.slice A4 o.length c4).ownBlock=some j) hgr (fun j hj=>hj)) (fun i hi=>(HVK.out i hi).elim (fun h=>.inl (.inr (.inr h))) .inr));have HS6:=hid (HS5.out.ch (Ch.of_grown (S:=fun j=>(Value.slice A4 o.length c4).ownBlock=some j) hgr (fun j hj=>hj)) (fun h=>(HVN.out _ h).1 rfl) (fun h=>(HVN.out _ h).2 rfl))
          have HV6:=hid (show ∀ j,v6.ownBlock=some j→(Value.slice A o0.length c).ownBlock=some j∨w3.heap.size≤j from fun j hj=>by
           rcases hat with e | e
           ·exact HVK.out j (e ▸ hj)
           ·rw [e] at hj;injection hj with hj
            exact .inr (by omega))
          have HO6:=hid ho6;clear ho6 hgr hat;go_wp2_with fail;go_roundw
          case rel=>exact ⟨k+1,o ++ ps,s4,by omega,by go_num,by simp;omega,HRR.out,HS6.out,HO6.out,HV6.out,HC6.out⟩
          case measure=>simp [intOf];omega
       ·have HRE:=hid (show (bq (f+1) at_ o0).run s=(dK f n.kids o).run s3 by rw [HRK.out,List.drop_eq_nil_of_le (by omega)];rfl);have hk1:(n.cells.length:Int)≤(k:Int):=by omega
        obtain ⟨a0,a1,a2,a3,a4⟩:=aa (HCS.out _ HCK.out).2.2;have hdn:=HSM.out.d;clear HRK;go_wp2_with fail;go_loopw [3,63] (fun v iv wr=>∃ (k:Nat) (o:List Int) (s3:Sf),k≤n.kids.length∧iv=.int .i64 k∧o.length≤10000∧(bq (f+1) at_ o0).run s=(dK f (n.kids.drop k) o).run s3∧ShIs wr gs gm s3∧Own iC 1 3 base wr v o∧(∀ k,v.ownBlock=some k→(Value.slice A o0.length c).ownBlock=some k∨w3.heap.size≤k)∧Ch (mf gs gm (.slice A o0.length c)) w3 wr) (fun _ iv _=>n.kids.length - (intOf iv).toNat)
        case atStart=>exact ⟨0,o,s3,Nat.zero_le _,rfl,by omega,HRE.out,HSK.out,HOK.out,HVK.out,HCK.out⟩
        case round=>
         clear HRE HSK HOK HVK HCK hok hk hlt hk1 a0 a1 a2 a3 a4;obtain ⟨k,o,s3,hk,rfl,hok,hr,hs,ho,hv,hc⟩:=hrel;obtain ⟨A4,c4,rfl⟩:=Sl.len' (ho.sl aA);have HRK:=hid hr;have HSK:=hid hs;have HOK:=hid ho;have HVK:=hid hv;have HCK:=hid hc;clear hr hs ho hv hc;by_cases hlt:k<n.kids.length
         ·obtain ⟨b,off,c',he,hbl,hcells⟩:=(HCS.out _ HCK.out).2.1.at1 hlt;injection he with he1 he2 he3
          subst he1 he3;have e0:wr.cell? ⟨b,off+k,none⟩=some (.int .i64 n.kids[k]):=by simpa [iC] using hcells 0 _ rfl
          have hk0:(0:Int)≤(k:Int):=by omega
          have hk1:(k:Int)<(n.kids.length:Int):=by omega
          have HRF:=hid (show (bq (f+1) at_ o0).run s=((bq f n.kids[k] o).bind fun o=>dK f (n.kids.drop (k+1)) o).run s3 by rw [HRK.out,List.drop_eq_getElem_cons hlt];rfl)
          have HVN:=hid (show ∀ j,(Value.slice A4 o.length c4).ownBlock=some j→j≠gs∧j≠gm from fun j hj=>by
           rcases HVK.out j hj with h | h
           ·exact ⟨fun e=>HG.out.1 (e ▸ h),fun e=>HG.out.2 (e ▸ h)⟩
           ·constructor <;> omega)
          have HKC:=hid (HIH.out f rfl n.kids[k] o (Value.slice A4 o.length c4) s3 wr HSK.out HOK.out (by have:=HCK.out.size;omega) hok (fun h=>(HVN.out _ h).1 rfl) (fun h=>(HVN.out _ h).2 rfl));rw [show (21 - (f:Int))=lv+1 by have:=HLV.out;omega] at HKC;clear hcells HRK;generalize n.kids[k]=kd at *;unfold bV at HKC;go_wp2_with fail;refine HKC.out.mono ?_;rintro e w5 ⟨hp,hs,hc⟩;have hwz:∀ x,((bq f kd o).run s3).2=.err x→x≠0:=fun x=>Pro.NZ.run _ s3 x (i9 f kd o)
          obtain ⟨⟨s4,a⟩,hx⟩:∃ y,(bq f kd o).run s3=y:=⟨_,rfl⟩;rw [hx] at hp hs hwz;have HX:=hid hx;have HS5:=hid hs
          have HC5:=hid (HCK.out.then hc (fun i hi=>by
           rcases hi with h | h | h
           ·exact .inl (.inl h)
           ·exact .inl (.inr (.inl h))
           ·exact (HVK.out i h).elim (fun h=>.inl (.inr (.inr h))) .inr))
          clear hs hc hx e0 HKC;cases a with
          | err y=>
            obtain ⟨rfl,hx0⟩:=hp;have hx1:(y == 0)=false:=by simpa using hx0
            have HV:=hid (HRF.out.trans (ak HX.out));go_wp2_with fail;go_ret2;rw [HV.out];exact ⟨⟨rfl,hx0⟩,HS5.out,HC3.out.trans HC5.out⟩
          | ok l=>
            obtain ⟨v5,rfl,ho5,hl5,hv5⟩:=hp;have HO5:=hid ho5;have HV5:=hid (show ∀ j,v5.ownBlock=some j→(Value.slice A o0.length c).ownBlock=some j∨w3.heap.size≤j from fun j hj=>(hv5 j hj).elim (HVK.out j) (fun h=>.inr (Nat.le_trans HCK.out.size h)));have HRR:=hid (HRF.out.trans (af HX.out));clear ho5 hv5 HRF HX hwz;go_wp2_with fail;go_roundw
            case rel=>exact ⟨k+1,l,s4,by omega,by go_num,hl5,HRR.out,HS5.out,HO5.out,HV5.out,HC5.out⟩
            case measure=>simp [intOf];omega
         ·have HRE:=hid (show (bq (f+1) at_ o0).run s=(s3,.ok o) by rw [HRK.out,List.drop_eq_nil_of_le (by omega)];rfl);have hk1:(n.kids.length:Int)≤(k:Int):=by omega
          go_wp2_with fail;go_ret2;rw [HRE.out];have hcs:=HC3.out.size;exact ⟨⟨_,rfl,HOK.out,hok,fun j hj=>(HVK.out j hj).imp id (fun h=>by omega)⟩,HSK.out,HC3.out.trans HCK.out⟩
theorem mY (base gs gm:Nat):∀ (f:Nat) (at_:Int) (o0:List Int) (vout:Value) (s:Sf) (w:World),f≤20→ShIs w gs gm s→Own iC 1 3 base w vout o0→base≤w.heap.size→o0.length≤10000→vout.ownBlock≠some gs→vout.ownBlock≠some gm→
  Calls Tryz.prog 76 #[bV gs,.int .i64 at_,.int .i64 (21 - f:Int),vout] w fun e w'=>uf base w w' vout e ((bq f at_ o0).run s).2∧ShIs w' gs gm ((bq f at_ o0).run s).1∧Ch (mf gs gm vout) w w'
 | 0,at_,o0,vout,s,w,hf,hS,hO,hb,hl,h1,h2=>lw 0 at_ base gs gm o0 vout s w hf hS hO hb hl h1 h2 (fun f' h=>by omega)
 | f+1,at_,o0,vout,s,w,hf,hS,hO,hb,hl,h1,h2=>lw (f+1) at_ base gs gm o0 vout s w hf hS hO hb hl h1 h2 (fun f' h=>by
     obtain rfl:f'=f:=by omega
     exact fun a o v s w hS hO hb hl h1 h2=>mY base gs gm f' a o v s w (by omega) hS hO hb hl h1 h2)
def ud (base:Nat) (w:World) (e:Ending):Ans (List Int)→Prop
 | .ok l=>∃ v,e=.returned (.tuple #[v,.int .i64 0])∧Own iC 1 3 base w v l∧l.length≤10000
 | .err x=>e=.returned (.tuple #[.slice none 0 0,.int .i64 x])∧x≠0
theorem mX (root:Int) (gs gm:Nat) (s:Sf) (w:World) (hS:ShIs w gs gm s):
  Calls Tryz.prog 28 #[bV gs,.int .i64 root] w fun e w'=>ud w.heap.size w' e ((fW root).run s).2∧ShIs w' gs gm ((fW root).run s).1∧Ch (fun k=>k=gs∨k=gm) w w':=by
 have HL:=hid (mY w.heap.size gs gm 20 root [] (.slice none 0 0) s w (Nat.le_refl _) hS Own.nil (Nat.le_refl _) (Nat.zero_le _) (fun h=>by cases h) (fun h=>by cases h));clear hS;unfold bV at HL ⊢;go_enter Tryz.func28,Tryz.ntmps28;go_wp2_with fail;refine HL.out.mono ?_;rintro e w2 ⟨hp,hs,hc⟩;obtain ⟨⟨s2,a⟩,hx⟩:∃ y,(fW root).run s=y:=⟨_,rfl⟩;rw [show (bq 20 root []).run s=_ from hx] at hp hs;have HS:=hid hs
 have HC:=hid (show Ch (fun k=>k=gs∨k=gm) w w2 from hc.mono (fun _ _ e=>by
  rcases e with e | e | e
  ·exact .inl e
  ·exact .inr e
  ·cases e))
 have HX:=hid hx;clear hs hc HL hx;cases a with
 | err x=> obtain ⟨rfl,hx0⟩:=hp;go_wp2_with fail;go_ret2;rw [HX.out];exact ⟨⟨rfl,hx0⟩,HS.out,HC.out⟩
 | ok l=> obtain ⟨v,rfl,ho,hl,_⟩:=hp;have HO:=hid ho;clear ho;go_wp2_with fail;go_ret2;rw [HX.out];exact ⟨⟨_,rfl,HO.out,hl⟩,HS.out,HC.out⟩
theorem rm (root:Int) (gs gm:Nat) (s:Sf) (w:World) (h:ShIs w gs gm s):
  Calls Tryz.prog 30 #[bV gs,.int .i64 root] w fun e w'=>e=.returned (dj ((eu root).run s).2)∧ShIs w' gs gm ((eu root).run s).1∧Ch (fun k=>k=gs∨k=gm) w w':=by
 have HA:=hid (mX root gs gm s w h);have hgs:=aj h.blk;have hgm:=h.book.lt;clear h;unfold bV at HA ⊢;go_enter Tryz.func30,Tryz.ntmps30;go_wp2_with fail;refine HA.out.mono ?_;rintro e w2 ⟨hp,hs,hc⟩;have HS:=hid hs;have HC2:=hid hc;clear hs hc HA;obtain ⟨⟨s2,a⟩,hx⟩:∃ x,(fW root).run s=x:=⟨_,rfl⟩;rw [hx] at HS hp;have HV:=hid hx;clear hx;cases a with
 | ok ps=>
   obtain ⟨vl,rfl,ho,hpl⟩:=hp;have HO:=hid ho;obtain ⟨A,cc,rfl⟩:=Sl.len' (ho.sl aA);clear ho;have HR:=hid (show (eu root).run s=(dN ps).run s2 from af HV.out);go_wp2_with fail;go_loopw [21] (fun iv wr=>∃ (k:Nat) (s3:Sf),k≤ps.length∧iv=.int .i64 k∧(eu root).run s=(dN (ps.drop k)).run s3∧ShIs wr gs gm s3∧Own iC 1 3 w.heap.size wr (.slice A ps.length cc) ps∧Ch (fun k=>k=gs∨k=gm) w wr) (fun iv _=>ps.length - (intOf iv).toNat)
   case atStart=>exact ⟨0,s2,Nat.zero_le _,rfl,HR.out,HS.out,HO.out,HC2.out⟩
   case round=>
    obtain ⟨k,s3,hk,rfl,hr,hs,ho,hch⟩:=hrel;have HRK:=hid hr;have HSK:=hid hs;have HOK:=hid ho;have HCK:=hid hch;clear hr hs hch;by_cases hlt:k<ps.length
    ·obtain ⟨b,off,c',he,hbl,hcells⟩:=(ho.sl aA).at1 hlt;injection he with he1 he2 he3
     subst he1 he3;have e0:wr.cell? ⟨b,off+k,none⟩=some (.int .i64 ps[k]):=by simpa [iC] using hcells 0 _ rfl
     have hk0:(0:Int)≤(k:Int):=by omega
     have hk1:(k:Int)<(ps.length:Int):=by omega
     have HRF:=hid (show (eu root).run s=if co s3 ps[k]=0 then (dN (ps.drop (k+1))).run (dh s3 ps[k]) else (dh s3 ps[k],.err (co s3 ps[k])) by rw [HRK.out,List.drop_eq_getElem_cons hlt];rfl);have hlw:=HOK.out.lt;clear hcells ho;generalize ps[k]=x at *;go_wp2_with fail;refine (gQ gs gm s3 x wr HSK.out).mono ?_;rintro e w5 ⟨rfl,hs5,hc5⟩;have HS5:=hid hs5;have HO5:=hid (HOK.out.ch hc5 (fun j hj e=>by have:=(hlw j hj).1;rcases e with e | e <;> omega));have HC5:=hid (HCK.out.trans hc5);clear hs5 hc5 e0;by_cases hz:co s3 x=0
     ·rw [hz];have HRZ:=hid (show (eu root).run s=(dN (ps.drop (k+1))).run (dh s3 x) by rw [HRF.out,if_pos hz]);go_wp2_with fail;go_roundw
      case rel=>exact ⟨k+1,dh s3 x,by omega,by go_num,HRZ.out,HS5.out,HO5.out,HC5.out⟩
      case measure=>simp [intOf];omega
     ·have HRZ:=hid (show (eu root).run s=(dh s3 x,.err (co s3 x)) by rw [HRF.out,if_neg hz]);generalize co s3 x=ee at *;have hz1:(ee == 0)=false:=by simpa using hz
      go_wp2_with fail;go_ret;rw [HRZ.out];exact ⟨rfl,HS5.out,HC5.out⟩
    ·have HRZ:=hid (show (eu root).run s=(s3,.ok ()) by rw [HRK.out,List.drop_eq_nil_of_le (by omega)];rfl);have hk1:(ps.length:Int)≤(k:Int):=by omega
     clear ho;go_wp2_with fail;go_ret;rw [HRZ.out];exact ⟨rfl,HSK.out,HCK.out⟩
 | err x=>
   obtain ⟨rfl,hx0⟩:=hp;have hx1:(x == 0)=false:=by simpa using hx0
   have HR:=hid (show (eu root).run s=(s2,.err x) from ak HV.out);go_wp2_with fail;go_ret;rw [HR.out];exact ⟨rfl,HS.out,HC2.out⟩
end Go.Proofs.YtknioodagnjchaaGreatDoor
namespace Go.Proofs.YtknioodagnjchaaGreatDoor
open Go.RowKit
section
variable {gs gm:Nat} {s s':Sf} {w:World} {root:Int} {k v:By}
theorem sf {n:Int} (hr:makeT.run s=(s',.ok n)) (hS:ShIs w gs gm s):Calls Tryz.prog 24 #[bV gs] w fun e w'=>e=.returned (.tuple #[.int .i64 n,.int .i64 0])∧ShIs w' gs gm s'∧Ch (fun k=>k=gs∨k=gm) w w':=by have:=qU gs gm s w hS;rw [hr] at this;exact this
theorem oa (hr:(cP root k v).run s=(s',.ok ())) (hS:ShIs w gs gm s):Calls Tryz.prog 25 #[bV gs,.int .i64 root,.string (al k),.string (al v)] w fun e w'=>e=.returned (.int .i64 0)∧ShIs w' gs gm s'∧Ch (fun k=>k=gs∨k=gm) w w':=by have:=oP root k v gs gm s w hS;rw [hr] at this;exact this
theorem rS {x:Int} (hr:(cP root k v).run s=(s',.err x)) (hS:ShIs w gs gm s):Calls Tryz.prog 25 #[bV gs,.int .i64 root,.string (al k),.string (al v)] w fun e w'=>e=.returned (.int .i64 x)∧ShIs w' gs gm s'∧Ch (fun k=>k=gs∨k=gm) w w':=by have:=oP root k v gs gm s w hS;rw [hr] at this;exact this
theorem tp {b:Bool} (hr:(kx root k).run s=(s',.ok b)) (hS:ShIs w gs gm s):Calls Tryz.prog 27 #[bV gs,.int .i64 root,.string (al k)] w fun e w'=>e=.returned (.tuple #[.bool b,.int .i64 0])∧ShIs w' gs gm s'∧Ch (fun k=>k=gs∨k=gm) w w':=by have:=sx root k gs gm s w hS;rw [hr] at this;exact this
theorem rj (hr:(bo 20 root k).run s=(s',.ok (some v))) (hS:ShIs w gs gm s):Calls Tryz.prog 22 #[bV gs,.int .i64 root,.string (al k)] w fun e w'=>e=.returned (.tuple #[.string (al v),.bool true,.int .i64 0])∧ShIs w' gs gm s'∧Ch (fun k=>k=gs∨k=gm) w w':=by have:=o8 root k gs gm s w hS;rw [hr] at this;exact this
theorem sg {l:List Int} (hr:(fW root).run s=(s',.ok l)) (hS:ShIs w gs gm s):Calls Tryz.prog 28 #[bV gs,.int .i64 root] w fun e w'=>(∃ v,e=.returned (.tuple #[v,.int .i64 0])∧Own iC 1 3 w.heap.size w' v l∧l.length≤10000)∧ShIs w' gs gm s'∧Ch (fun k=>k=gs∨k=gm) w w':=by have:=mX root gs gm s w hS;rw [hr] at this;exact this
theorem su (hr:(eu root).run s=(s',.ok ())) (hS:ShIs w gs gm s):Calls Tryz.prog 30 #[bV gs,.int .i64 root] w fun e w'=>e=.returned (.int .i64 0)∧ShIs w' gs gm s'∧Ch (fun k=>k=gs∨k=gm) w w':=by have:=rm root gs gm s w hS;rw [hr] at this;exact this
end
end Go.Proofs.YtknioodagnjchaaGreatDoor
