/- Trees gone over: looks for one pair as programs; what they find; plain. tree: list, List, Drop. The tree's calls, where what they do to their pages is known. What cahierlaw16.awake does to its pages, plain: run by the kernel. cahierlaw16.awake is true. cahierlaw16.numbered: a key of a number. -/
import Derived.Test.YtknioodagnjchaaGreatDoorBGl
import Derived.Test.YtknioodagnjchaaGreatDoorBGi
import Derived.Test.YtknioodagnjchaaGreatDoorBGe
import Derived.Test.YtknioodagnjchaaGreatDoorBGf
import Derived.Test.YtknioodagnjchaaGreatDoorBGd
import Derived.Test.YtknioodagnjchaaGreatDoorBGa
import Derived.WalkKit
set_option maxRecDepth 100000
set_option maxHeartbeats 8000000
namespace Go.Proofs.YtknioodagnjchaaGreatDoor

end Go.Proofs.YtknioodagnjchaaGreatDoor
namespace Go.Proofs.YtknioodagnjchaaGreatDoor
open Go.Value renaming slice->Bt
open List renaming drop_eq_getElem_cons->Bv,drop_eq_nil_of_le->Bw
open Nat renaming zero_le->Bx,le_refl->Bz
open Go.Lib renaming hid->Z
open Go.RowKit
def zI (base:Nat) (w w':World) (vout:Value) (e:Ending):Ans (List Int)->Prop
 | .ok l=>∃ v,e=.returned (.tuple #[v,.int .i64 0])/\Own iC 1 3 base w' v l/\l.length<=10000/\∀ k,v.ownBlock=some k->vout.ownBlock=some k\/w.heap.size<=k
 | .err x=>e=.returned (.tuple #[.slice none 0 0,.int .i64 x])/\x≠0
def pL (gs gm:Nat) (vout:Value):Nat->Prop:=fun k=>k=gs\/k=gm\/vout.ownBlock=some k
theorem jb (f:Nat) (a:Int) (o:List Int):bL (f+1) a o=(bl a).bind fun n=>if 4096<=o.length then .fail 30 else (eU n.cells (o ++ [a])).bind (eR f n.kids):=by
 show (bl a).bind _=_;congr 1;funext n
 split
 ·rfl
 ·congr 1;funext o;rw [lp];rfl
theorem vu {α β:Type} {P:α->Prop} {Q:β->Prop}:∀ (p:Pro α) (f:α->Pro β),(∀ s s' a,p.run s=(s',.ok a)->P a)->(∀ a,P a->∀ s s' b,(f a).run s=(s',.ok b)->Q b)->∀ s s' b,(p.bind f).run s=(s',.ok b)->Q b:=fun p f h1 h2 s s' b h=>by
 rw [run_bind] at h;obtain ⟨⟨s1,a⟩,hx⟩:∃ x,p.run s=x:=⟨_,rfl⟩;rw [hx] at h;cases a with
 | ok a=>exact h2 a (h1 _ _ _ hx) _ _ _ h
 | err e=>cases h
theorem tK:∀ (f left:Nat) (a:Int) (s s':Sf) (r:By × List Int),(ma f left a).run s=(s',.ok r)->r.2.length<=f
 | 0,left,a,s,s',r,h=>by cases h;exact Bz _
 | f+1,left,a,s,s',r,h=>by
   unfold ma at h
   split at h
   ·cases h;exact Bx _
   ·simp only [Pro.run] at h
    split at h
    ·split at h
     ·cases h
     ·exact vu (P:=fun r=>r.2.length<=f) (Q:=fun r=>r.2.length<=f+1) _ _ (fun s s' a h=>tK f _ _ s s' a h) (fun a ha s s' b hb=>by cases hb;simp only [List.length_cons];omega) _ _ _ h
    ·cases h
theorem tW (c:Ce) (s s':Sf) (r:By × List Int) (h:(bB c).run s=(s',.ok r)):r.2.length<=23:=by
 unfold bB at h
 split at h
 ·cases h
 ·split at h
  ·cases h;exact Bx _
  ·exact tK _ _ _ _ _ _ h
theorem oW:∀ (cs:List Ce) (o:List Int),(eU cs o).NZ
 | [],_=>trivial
 | c :: cs,_=>Pro.NZ.bind _ _ (jX c) (fun _=>oW cs _)
theorem qW {f:Nat} (h:∀ a o,(bL f a o).NZ):∀ (ks:List Int) (o:List Int),(eR f ks o).NZ
 | [],_=>trivial
 | k :: ks,o=>Pro.NZ.bind _ _ (h k o) (fun o=>qW h ks o)
theorem lj:∀ (f:Nat) (a:Int) (o:List Int),(bL f a o).NZ
 | 0,a,o=>Pro.NZ.bind _ _ (fF a) (fun _=>show (30:Int)≠0 by decide)
 | f+1,a,o=>by
   rw [jb];refine Pro.NZ.bind _ _ (fF a) (fun n=>?_)
   split
   ·exact show (30:Int)≠0 by decide
   ·exact Pro.NZ.bind _ _ (oW _ _) (fun o=>qW (lj f) _ o)
theorem oD (f:Nat) (at_:Int) (base gs gm:Nat) (o0:List Int) (vout:Value) (s:Sf) (w:World) (hf:f<=20) (hS:ShIs w gs gm s) (hO:Own iC 1 3 base w vout o0) (hb:base<=w.heap.size) (hlen:o0.length<=10000) (hg1:vout.ownBlock≠some gs) (hg2:vout.ownBlock≠some gm)
  (ih:∀ f',f'+1=f->∀ (at_:Int) (o0:List Int) (vout:Value) (s:Sf) (w:World),ShIs w gs gm s->Own iC 1 3 base w vout o0->base<=w.heap.size->o0.length<=10000->vout.ownBlock≠some gs->vout.ownBlock≠some gm->Calls Tryz.prog 76 #[co gs,.int .i64 at_,.int .i64 (21 - f':Int),vout] w fun e w'=>zI base w w' vout e ((bL f' at_ o0).run s).2/\ShIs w' gs gm ((bL f' at_ o0).run s).1/\Ch (pL gs gm vout) w w'):
  Calls Tryz.prog 76 #[co gs,.int .i64 at_,.int .i64 (21 - f:Int),vout] w fun e w'=>zI base w w' vout e ((bL f at_ o0).run s).2/\ShIs w' gs gm ((bL f at_ o0).run s).1/\Ch (pL gs gm vout) w w':=by
 have HS:=Z hS;have HO:=Z hO;have HIH:=Z ih;have HG:=Z (show vout.ownBlock≠some gs/\vout.ownBlock≠some gm from ⟨hg1,hg2⟩);have HNZ:=Z (show ∀ x,((bL f at_ o0).run s).2=.err x->x≠0 from fun x=>Pro.NZ.run _ s x (lj f at_ o0));have hgs:=aj hS.blk;have hgm:=hS.book.lt;obtain ⟨A,c,rfl⟩:=Sl.zM (hO.sl ax);generalize hlv:(21 - (f:Int))=lv at *;have HLV:=Z hlv;have hlv0:1<=lv:=by omega
 have hlv1:lv<=21:=by omega
 have HRD:=Z (dE at_ gs gm s w hS);unfold co at HRD ⊢;clear hlv hS hO ih hg1 hg2;go_enter Tryz.func76,Tryz.ntmps76;go_wp2_with fail;refine HRD.out.mono ?_;rintro e w2 ⟨hp,hs,hc⟩;have hrz:=cu (a:=at_) (s:=s);obtain ⟨⟨s2,a⟩,hx⟩:∃ x,(bl at_).run s=x:=⟨_,rfl⟩;rw [hx] at hp hs hrz;have HS2:=Z hs;have HC2:=Z (show Ch (pL gs gm (.slice A o0.length c)) w w2 from hc.mono (fun _ _ e=>e.elim .inl (fun e=>.inr (.inl e))));have HO2:=Z (HO.out.ch hc (fun k hk e=>e.elim (fun e=>HG.out.1 (e ▸ hk)) (fun e=>HG.out.2 (e ▸ hk))));have HX:=Z hx;have hsz2:=hc.size;clear hs hc hx HRD;cases a with
 | err x=>
   obtain rfl:=hp;have hx0:¬ x=0:=hrz x rfl;have hx1:(x == 0)=false:=by simpa using hx0
   have HW:=Z (show (bL f at_ o0).run s=(s2,.err x) by
    cases f with
    | zero=>exact aq HX.out
    | succ f=>rw [jb];exact aq HX.out)
   have HS3:=Z (HS2.out.ch (S:=fun _=>False) (Ch.alloc (Ch.refl _ w2) (ar Nd.zero (.slice none 0 0) (.slice none 0 0) (.slice none 0 0))) id id);have HC3:=Z (Ch.alloc HC2.out (ar Nd.zero (.slice none 0 0) (.slice none 0 0) (.slice none 0 0)));simp only [qJ];go_wp2_with fail;go_ret2;rw [HW.out];exact ⟨⟨rfl,hx0⟩,HS3.out,HC3.out⟩
 | ok n=>
   obtain ⟨v,rfl,ho⟩:=hp;have HNF:=Z ho.f;obtain ⟨vk,vc,vd,rfl,h1,h2,h3⟩:=ho.f;obtain ⟨hg,hsm⟩:=en HX.out;have HSM:=Z hsm;have HRF:=Z (show ∀ p:Nd->Pro (List Int),((bl at_).bind p).run s=(p n).run s2 from fun p=>ah HX.out);obtain ⟨A1,c1,rfl⟩:=Sl.zM h1.sl;obtain ⟨A2,c2,rfl⟩:=Sl.zM h2.sl;obtain ⟨A3,c3,rfl⟩:=Sl.zM h3.sl;clear ho h1 h2 h3 hg hsm hrz;have HX3:=Z (ag (w0:=w2) (g:=w2.heap.size) (o:=ar n (.slice A1 n.keys.length c1) (.slice A2 n.cells.length c2) (.slice A3 n.kids.length c3)) rfl);have HS3:=Z (HS2.out.ch (S:=fun _=>False) (Ch.alloc (Ch.refl _ w2) (ar n (.slice A1 n.keys.length c1) (.slice A2 n.cells.length c2) (.slice A3 n.kids.length c3))) id id);have HC3:=Z (Ch.alloc HC2.out (ar n (.slice A1 n.keys.length c1) (.slice A2 n.cells.length c2) (.slice A3 n.kids.length c3)));have HN3:=Z (HNF.out.keep ((Below.refl _ w2).alloc (Bz _) (ar n (.slice A1 n.keys.length c1) (.slice A2 n.cells.length c2) (.slice A3 n.kids.length c3))));have HO3:=Z (HO2.out.alloc (ar n (.slice A1 n.keys.length c1) (.slice A2 n.cells.length c2) (.slice A3 n.kids.length c3)));have hsz3:w2.heap.size<(w2.alloc (ar n (.slice A1 n.keys.length c1) (.slice A2 n.cells.length c2) (.slice A3 n.kids.length c3))).heap.size:=by simp
   go_upto_region 2 with fail
   generalize hw1:w2.alloc (.cells #[.bool n.leaf,.slice A1 n.keys.length c1,.slice A2 n.cells.length c2,.slice A3 n.kids.length c3] 110)=w3 at *;have hw2:w2.alloc (ar n (.slice A1 n.keys.length c1) (.slice A2 n.cells.length c2) (.slice A3 n.kids.length c3))=w3:=hw1;rw [hw2] at HX3 HS3 HC3 HN3 HO3 hsz3;clear hw1 hw2;obtain ⟨a0,a1,a2,a3,a4⟩:=aa HX3.out;cases f with
   | zero=>
     have HW:=Z (show (bL 0 at_ o0).run s=(s2,.err 30) from HRF.out _);have hl1:20<lv:=by have:=HLV.out;omega
     go_wp2_with fail;go_ret2;rw [HW.out];exact ⟨⟨rfl,by decide⟩,HS3.out,HC3.out⟩
   | succ f=>
     have hl1:lv<=20:=by have:=HLV.out;omega
     have HRG:=Z (show (bL (f+1) at_ o0).run s=(if 4096<=o0.length then Pro.fail 30 else (eU n.cells (o0 ++ [at_])).bind (eR f n.kids)).run s2 by rw [jb];exact HRF.out _);by_cases h96:4096<=o0.length
     ·have HW:=Z (show (bL (f+1) at_ o0).run s=(s2,.err 30) by rw [HRG.out,if_pos h96];rfl);have h96i:(4096:Int)<=(o0.length:Int):=by omega
      go_wp2_with fail;go_ret2;rw [HW.out];exact ⟨⟨rfl,by decide⟩,HS3.out,HC3.out⟩
     ·have HW:=Z (show (bL (f+1) at_ o0).run s=((eU n.cells (o0 ++ [at_])).bind (eR f n.kids)).run s2 by rw [HRG.out,if_neg h96]);have h96i:(o0.length:Int)<4096:=by omega
      clear HRG HRF HX;go_wp2_with (at_builtin;refine Hid.out ?_);refine Z ?_;refine al rfl rfl bI rfl rfl (HO3.out.alloc _) (Sl.one at_ (by simp) ax (by rfl)) (by simp [maxLen];omega) (by simp;omega) (by simp;omega) ?_;intro v' w6 ho hgr hat;have HC6:=Z (show Ch (pL gs gm (.slice A o0.length c)) w3 w6 from (Ch.alloc (Ch.refl _ w3) (.cells #[.int .i64 at_] 3)).trans (Ch.zL hgr (fun k hk=>.inr (.inr hk))));have HS6:=Z (HS3.out.ch (S:=fun k=>(Bt A o0.length c).ownBlock=some k) ((Ch.alloc (Ch.refl _ w3) (.cells #[.int .i64 at_] 3)).trans (Ch.zL hgr (fun k hk=>hk))) HG.out.1 HG.out.2);have HO6:=Z ho
      have HV6:=Z (show ∀ k,v'.ownBlock=some k->(Bt A o0.length c).ownBlock=some k\/w3.heap.size<=k from fun k hk=>by
       rcases hat with e | e
       ·exact .inl (e ▸ hk)
       ·rw [e] at hk;injection hk with hk
        exact .inr (by rw [<- hk];simp))
      have HFAR:=Z (show ∀ k,w.heap.size<=k->¬ pL gs gm (.slice A o0.length c) k from fun k hk e=>by
       rcases e with e | e | e
       ·omega
       ·omega
       ·have:=(HO.out.lt k e).2;omega)
      have HCS:=Z (show ∀ wr,Ch (pL gs gm (.slice A o0.length c)) w3 wr->Sl cC 3 wr (.slice A2 n.cells.length c2) n.cells/\Sl iC 1 wr (.slice A3 n.kids.length c3) n.kids/\wr.heap[w2.heap.size]?=some (ar n (.slice A1 n.keys.length c1) (.slice A2 n.cells.length c2) (.slice A3 n.kids.length c3)) from fun wr hc=>by
       obtain ⟨vk,vc,vd,e,i1,i2,i3⟩:=HN3.out.ch hc HFAR.out;injection e with e
       obtain ⟨rfl,rfl,rfl⟩:=sS e;exact ⟨i2.sl,i3.sl,hc.keep HX3.out (HFAR.out _ hsz2)⟩)
      have hol:o0.length<4096:=by omega
      clear ho hgr hat a0 a1 a2 a3 a4 HX3 HN3 HO3 HO2 HC2 HS2 HNF;obtain ⟨a0,a1,a2,a3,a4⟩:=aa (HCS.out _ HC6.out).2.2;go_wp2_with fail;go_loopw [3,43] (fun v iv wr=>∃ (k:Nat) (o:List Int) (s3:Sf),k<=n.cells.length/\iv=.int .i64 k/\o.length<=4096+23 * k/\(bL (f+1) at_ o0).run s=((eU (n.cells.drop k) o).bind (eR f n.kids)).run s3/\ShIs wr gs gm s3/\Own iC 1 3 base wr v o/\(∀ k,v.ownBlock=some k->(Bt A o0.length c).ownBlock=some k\/w3.heap.size<=k)/\Ch (pL gs gm (.slice A o0.length c)) w3 wr) (fun _ iv _=>n.cells.length - (intOf iv).toNat)
      case atStart=>exact ⟨0,o0 ++ [at_],s2,Bx _,rfl,by simp;omega,HW.out,HS6.out,HO6.out,HV6.out,HC6.out⟩
      case round=>
       obtain ⟨k,o,s3,hk,rfl,hok,hr,hs,ho,hv,hc⟩:=hrel;obtain ⟨A4,c4,rfl⟩:=Sl.zM (ho.sl ax);have HRK:=Z hr;have HSK:=Z hs;have HOK:=Z ho;have HVK:=Z hv;have HCK:=Z hc;have hcn:=HSM.out.c;clear hr hs ho hv hc HC6 HS6 HO6 HV6 a0 a1 a2 a3 a4;by_cases hlt:k<n.cells.length
       ·obtain ⟨b,off,rfl,hbl,_,e0,e1,e2⟩:=(HCS.out _ HCK.out).1.zT hlt;have hk0:(0:Int)<=(k:Int):=by omega
        have hk1:(k:Int)<(n.cells.length:Int):=by omega
        have HD:=Z (show n.cells.drop k=n.cells[k] :: n.cells.drop (k+1) from Bv hlt);have HRF:=Z (show (bL (f+1) at_ o0).run s=((bB n.cells[k]).bind fun r=>(eU (n.cells.drop (k+1)) (o ++ r.2)).bind (eR f n.kids)).run s3 by rw [HRK.out,HD.out];show (((bB n.cells[k]).bind fun r=>eU (n.cells.drop (k+1)) (o ++ r.2)).bind (eR f n.kids)).run s3=_;rw [fA]);have hdl:=HSM.out.cl _ (List.getElem_mem hlt);clear HD HRK;generalize n.cells[k]=x at *;have HXa:=Z (ag (w0:=wr) (g:=wr.heap.size) (o:=dj x) rfl);have HSa:=Z (HSK.out.ch (S:=fun _=>False) (Ch.alloc (Ch.refl _ wr) (dj x)) id id);have HOa:=Z (HOK.out.alloc (dj x));have HCa:=Z (Ch.alloc HCK.out (dj x));go_upto_region 10 with fail
        generalize hw1:wr.alloc (.cells #[.int .i64 x.size,.string (ap x.data),.int .i64 x.page] 119)=wa at *;have hw2:wr.alloc (dj x)=wa:=hw1;rw [hw2] at HXa HSa HOa HCa;clear hw1 hw2 e0 e1 e2;obtain ⟨b0,b1,b2,b3,b4,b5,b6⟩:=aN HXa.out;go_wp2_with fail;refine (oT x gs gm s3 wa HSa.out (by omega)).mono ?_;rintro e w5 ⟨hp,hs,hc⟩;have hwz:=jW (c:=x) (s:=s3);obtain ⟨⟨s4,a⟩,hx⟩:∃ y,(bB x).run s3=y:=⟨_,rfl⟩;rw [hx] at hp hs hwz;have HX:=Z hx;have HS5:=Z hs
        have HVN:=Z (show ∀ j,(Bt A4 o.length c4).ownBlock=some j->j≠gs/\j≠gm from fun j hj=>by
         rcases HVK.out j hj with h | h
         ·exact ⟨fun e=>HG.out.1 (e ▸ h),fun e=>HG.out.2 (e ▸ h)⟩
         ·constructor <;> omega)
        have HO5:=Z (HOa.out.ch hc (fun j hj e=>e.elim (HVN.out j hj).1 (HVN.out j hj).2));have HC5:=Z (HCa.out.trans (hc.mono (fun _ _ e=>e.elim .inl (fun e=>.inr (.inl e)))));clear hs hc hx b0 b1 b2 b3 b4 b5 b6 HXa HSa HOa HCa;cases a with
        | err y=>
          obtain rfl:=hp;have hx0:¬ y=0:=hwz y rfl;have hx1:(y == 0)=false:=by simpa using hx0
          have HV:=Z (HRF.out.trans (aq HX.out));go_wp2_with fail;go_ret2;rw [HV.out];exact ⟨⟨rfl,hx0⟩,HS5.out,HC3.out.trans HC5.out⟩
        | ok r=>
          obtain ⟨d,ps⟩:=r;obtain ⟨vl,rfl,hl⟩:=hp;have hps:ps.length<=23:=tW _ _ _ _ HX.out;have HL:=Z (hl.sl ax);obtain ⟨A5,c5,rfl⟩:=Sl.zM HL.out;have HRR:=Z (show (bL (f+1) at_ o0).run s=((eU (n.cells.drop (k+1)) (o ++ ps)).bind (eR f n.kids)).run s4 from HRF.out.trans (ah HX.out));have hb5:=HC5.out.size;clear hl HRF HX hwz;go_wp2_with (at_builtin;refine Hid.out ?_);refine Z ?_;refine al rfl rfl bI rfl rfl HO5.out HL.out (by unfold maxLen;omega) (by omega) (by omega) ?_;intro v6 w7 ho6 hgr hat;have HC6:=Z (HC5.out.then (Ch.zL (S:=fun j=>(Bt A4 o.length c4).ownBlock=some j) hgr (fun j hj=>hj)) (fun i hi=>(HVK.out i hi).elim (fun h=>.inl (.inr (.inr h))) .inr));have HS6:=Z (HS5.out.ch (Ch.zL (S:=fun j=>(Bt A4 o.length c4).ownBlock=some j) hgr (fun j hj=>hj)) (fun h=>(HVN.out _ h).1 rfl) (fun h=>(HVN.out _ h).2 rfl))
          have HV6:=Z (show ∀ j,v6.ownBlock=some j->(Bt A o0.length c).ownBlock=some j\/w3.heap.size<=j from fun j hj=>by
           rcases hat with e | e
           ·exact HVK.out j (e ▸ hj)
           ·rw [e] at hj;injection hj with hj
            exact .inr (by omega))
          have HO6:=Z ho6;clear ho6 hgr hat;go_wp2_with fail;go_roundw
          case rel=>exact ⟨k+1,o ++ ps,s4,by omega,by go_num,by simp;omega,HRR.out,HS6.out,HO6.out,HV6.out,HC6.out⟩
          case measure=>simp [intOf];omega
       ·have HRE:=Z (show (bL (f+1) at_ o0).run s=(eR f n.kids o).run s3 by rw [HRK.out,Bw (by omega)];rfl);have hk1:(n.cells.length:Int)<=(k:Int):=by omega
        obtain ⟨a0,a1,a2,a3,a4⟩:=aa (HCS.out _ HCK.out).2.2;have hdn:=HSM.out.d;clear HRK;go_wp2_with fail;go_loopw [3,63] (fun v iv wr=>∃ (k:Nat) (o:List Int) (s3:Sf),k<=n.kids.length/\iv=.int .i64 k/\o.length<=10000/\(bL (f+1) at_ o0).run s=(eR f (n.kids.drop k) o).run s3/\ShIs wr gs gm s3/\Own iC 1 3 base wr v o/\(∀ k,v.ownBlock=some k->(Bt A o0.length c).ownBlock=some k\/w3.heap.size<=k)/\Ch (pL gs gm (.slice A o0.length c)) w3 wr) (fun _ iv _=>n.kids.length - (intOf iv).toNat)
        case atStart=>exact ⟨0,o,s3,Bx _,rfl,by omega,HRE.out,HSK.out,HOK.out,HVK.out,HCK.out⟩
        case round=>
         clear HRE HSK HOK HVK HCK hok hk hlt hk1 a0 a1 a2 a3 a4;obtain ⟨k,o,s3,hk,rfl,hok,hr,hs,ho,hv,hc⟩:=hrel;obtain ⟨A4,c4,rfl⟩:=Sl.zM (ho.sl ax);have HRK:=Z hr;have HSK:=Z hs;have HOK:=Z ho;have HVK:=Z hv;have HCK:=Z hc;clear hr hs ho hv hc;by_cases hlt:k<n.kids.length
         ·obtain ⟨b,off,c',he,hbl,hcells⟩:=(HCS.out _ HCK.out).2.1.zQ hlt;injection he with he1 he2 he3
          subst he1 he3;have e0:wr.cell? ⟨b,off+k,none⟩=some (.int .i64 n.kids[k]):=by simpa [iC] using hcells 0 _ rfl
          have hk0:(0:Int)<=(k:Int):=by omega
          have hk1:(k:Int)<(n.kids.length:Int):=by omega
          have HRF:=Z (show (bL (f+1) at_ o0).run s=((bL f n.kids[k] o).bind fun o=>eR f (n.kids.drop (k+1)) o).run s3 by rw [HRK.out,Bv hlt];rfl)
          have HVN:=Z (show ∀ j,(Bt A4 o.length c4).ownBlock=some j->j≠gs/\j≠gm from fun j hj=>by
           rcases HVK.out j hj with h | h
           ·exact ⟨fun e=>HG.out.1 (e ▸ h),fun e=>HG.out.2 (e ▸ h)⟩
           ·constructor <;> omega)
          have HKC:=Z (HIH.out f rfl n.kids[k] o (Bt A4 o.length c4) s3 wr HSK.out HOK.out (by have:=HCK.out.size;omega) hok (fun h=>(HVN.out _ h).1 rfl) (fun h=>(HVN.out _ h).2 rfl));rw [show (21 - (f:Int))=lv+1 by have:=HLV.out;omega] at HKC;clear hcells HRK;generalize n.kids[k]=kd at *;unfold co at HKC;go_wp2_with fail;refine HKC.out.mono ?_;rintro e w5 ⟨hp,hs,hc⟩;have hwz:∀ x,((bL f kd o).run s3).2=.err x->x≠0:=fun x=>Pro.NZ.run _ s3 x (lj f kd o)
          obtain ⟨⟨s4,a⟩,hx⟩:∃ y,(bL f kd o).run s3=y:=⟨_,rfl⟩;rw [hx] at hp hs hwz;have HX:=Z hx;have HS5:=Z hs
          have HC5:=Z (HCK.out.then hc (fun i hi=>by
           rcases hi with h | h | h
           ·exact .inl (.inl h)
           ·exact .inl (.inr (.inl h))
           ·exact (HVK.out i h).elim (fun h=>.inl (.inr (.inr h))) .inr))
          clear hs hc hx e0 HKC;cases a with
          | err y=>
            obtain ⟨rfl,hx0⟩:=hp;have hx1:(y == 0)=false:=by simpa using hx0
            have HV:=Z (HRF.out.trans (aq HX.out));go_wp2_with fail;go_ret2;rw [HV.out];exact ⟨⟨rfl,hx0⟩,HS5.out,HC3.out.trans HC5.out⟩
          | ok l=>
            obtain ⟨v5,rfl,ho5,hl5,hv5⟩:=hp;have HO5:=Z ho5;have HV5:=Z (show ∀ j,v5.ownBlock=some j->(Bt A o0.length c).ownBlock=some j\/w3.heap.size<=j from fun j hj=>(hv5 j hj).elim (HVK.out j) (fun h=>.inr (Nat.le_trans HCK.out.size h)));have HRR:=Z (HRF.out.trans (ah HX.out));clear ho5 hv5 HRF HX hwz;go_wp2_with fail;go_roundw
            case rel=>exact ⟨k+1,l,s4,by omega,by go_num,hl5,HRR.out,HS5.out,HO5.out,HV5.out,HC5.out⟩
            case measure=>simp [intOf];omega
         ·have HRE:=Z (show (bL (f+1) at_ o0).run s=(s3,.ok o) by rw [HRK.out,Bw (by omega)];rfl);have hk1:(n.kids.length:Int)<=(k:Int):=by omega
          go_wp2_with fail;go_ret2;rw [HRE.out];have hcs:=HC3.out.size;exact ⟨⟨_,rfl,HOK.out,hok,fun j hj=>(HVK.out j hj).imp id (fun h=>by omega)⟩,HSK.out,HC3.out.trans HCK.out⟩
theorem qP (base gs gm:Nat):∀ (f:Nat) (at_:Int) (o0:List Int) (vout:Value) (s:Sf) (w:World),f<=20->ShIs w gs gm s->Own iC 1 3 base w vout o0->base<=w.heap.size->o0.length<=10000->vout.ownBlock≠some gs->vout.ownBlock≠some gm->
  Calls Tryz.prog 76 #[co gs,.int .i64 at_,.int .i64 (21 - f:Int),vout] w fun e w'=>zI base w w' vout e ((bL f at_ o0).run s).2/\ShIs w' gs gm ((bL f at_ o0).run s).1/\Ch (pL gs gm vout) w w'
 | 0,at_,o0,vout,s,w,hf,hS,hO,hb,hl,h1,h2=>oD 0 at_ base gs gm o0 vout s w hf hS hO hb hl h1 h2 (fun f' h=>by omega)
 | f+1,at_,o0,vout,s,w,hf,hS,hO,hb,hl,h1,h2=>oD (f+1) at_ base gs gm o0 vout s w hf hS hO hb hl h1 h2 (fun f' h=>by
     obtain rfl:f'=f:=by omega
     exact fun a o v s w hS hO hb hl h1 h2=>qP base gs gm f' a o v s w (by omega) hS hO hb hl h1 h2)
def zG (base:Nat) (w:World) (e:Ending):Ans (List Int)->Prop
 | .ok l=>∃ v,e=.returned (.tuple #[v,.int .i64 0])/\Own iC 1 3 base w v l/\l.length<=10000
 | .err x=>e=.returned (.tuple #[.slice none 0 0,.int .i64 x])/\x≠0
theorem qO (root:Int) (gs gm:Nat) (s:Sf) (w:World) (hS:ShIs w gs gm s):
  Calls Tryz.prog 28 #[co gs,.int .i64 root] w fun e w'=>zG w.heap.size w' e ((iG root).run s).2/\ShIs w' gs gm ((iG root).run s).1/\Ch (fun k=>k=gs\/k=gm) w w':=by
 have HL:=Z (qP w.heap.size gs gm 20 root [] (.slice none 0 0) s w (Bz _) hS Own.nil (Bz _) (Bx _) (fun h=>by cases h) (fun h=>by cases h));clear hS;unfold co at HL ⊢;go_enter Tryz.func28,Tryz.ntmps28;go_wp2_with fail;refine HL.out.mono ?_;rintro e w2 ⟨hp,hs,hc⟩;obtain ⟨⟨s2,a⟩,hx⟩:∃ y,(iG root).run s=y:=⟨_,rfl⟩;rw [show (bL 20 root []).run s=_ from hx] at hp hs;have HS:=Z hs
 have HC:=Z (show Ch (fun k=>k=gs\/k=gm) w w2 from hc.mono (fun _ _ e=>by
  rcases e with e | e | e
  ·exact .inl e
  ·exact .inr e
  ·cases e))
 have HX:=Z hx;clear hs hc HL hx;cases a with
 | err x=> obtain ⟨rfl,hx0⟩:=hp;go_wp2_with fail;go_ret2;rw [HX.out];exact ⟨⟨rfl,hx0⟩,HS.out,HC.out⟩
 | ok l=> obtain ⟨v,rfl,ho,hl,_⟩:=hp;have HO:=Z ho;clear ho;go_wp2_with fail;go_ret2;rw [HX.out];exact ⟨⟨_,rfl,HO.out,hl⟩,HS.out,HC.out⟩
theorem wO (root:Int) (gs gm:Nat) (s:Sf) (w:World) (h:ShIs w gs gm s):
  Calls Tryz.prog 30 #[co gs,.int .i64 root] w fun e w'=>e=.returned (dW ((hX root).run s).2)/\ShIs w' gs gm ((hX root).run s).1/\Ch (fun k=>k=gs\/k=gm) w w':=by
 have HA:=Z (qO root gs gm s w h);have hgs:=aj h.blk;have hgm:=h.book.lt;clear h;unfold co at HA ⊢;go_enter Tryz.func30,Tryz.ntmps30;go_wp2_with fail;refine HA.out.mono ?_;rintro e w2 ⟨hp,hs,hc⟩;have HS:=Z hs;have HC2:=Z hc;clear hs hc HA;obtain ⟨⟨s2,a⟩,hx⟩:∃ x,(iG root).run s=x:=⟨_,rfl⟩;rw [hx] at HS hp;have HV:=Z hx;clear hx;cases a with
 | ok ps=>
   obtain ⟨vl,rfl,ho,hpl⟩:=hp;have HO:=Z ho;obtain ⟨A,cc,rfl⟩:=Sl.zM (ho.sl ax);clear ho;have HR:=Z (show (hX root).run s=(eT ps).run s2 from ah HV.out);go_wp2_with fail;go_loopw [21] (fun iv wr=>∃ (k:Nat) (s3:Sf),k<=ps.length/\iv=.int .i64 k/\(hX root).run s=(eT (ps.drop k)).run s3/\ShIs wr gs gm s3/\Own iC 1 3 w.heap.size wr (.slice A ps.length cc) ps/\Ch (fun k=>k=gs\/k=gm) w wr) (fun iv _=>ps.length - (intOf iv).toNat)
   case atStart=>exact ⟨0,s2,Bx _,rfl,HR.out,HS.out,HO.out,HC2.out⟩
   case round=>
    obtain ⟨k,s3,hk,rfl,hr,hs,ho,hch⟩:=hrel;have HRK:=Z hr;have HSK:=Z hs;have HOK:=Z ho;have HCK:=Z hch;clear hr hs hch;by_cases hlt:k<ps.length
    ·obtain ⟨b,off,c',he,hbl,hcells⟩:=(ho.sl ax).zQ hlt;injection he with he1 he2 he3
     subst he1 he3;have e0:wr.cell? ⟨b,off+k,none⟩=some (.int .i64 ps[k]):=by simpa [iC] using hcells 0 _ rfl
     have hk0:(0:Int)<=(k:Int):=by omega
     have hk1:(k:Int)<(ps.length:Int):=by omega
     have HRF:=Z (show (hX root).run s=if cA s3 ps[k]=0 then (eT (ps.drop (k+1))).run (cX s3 ps[k]) else (cX s3 ps[k],.err (cA s3 ps[k])) by rw [HRK.out,Bv hlt];rfl);have hlw:=HOK.out.lt;clear hcells ho;generalize ps[k]=x at *;go_wp2_with fail;refine (gW gs gm s3 x wr HSK.out).mono ?_;rintro e w5 ⟨rfl,hs5,hc5⟩;have HS5:=Z hs5;have HO5:=Z (HOK.out.ch hc5 (fun j hj e=>by have:=(hlw j hj).1;rcases e with e | e <;> omega));have HC5:=Z (HCK.out.trans hc5);clear hs5 hc5 e0;by_cases hz:cA s3 x=0
     ·rw [hz];have HRZ:=Z (show (hX root).run s=(eT (ps.drop (k+1))).run (cX s3 x) by rw [HRF.out,if_pos hz]);go_wp2_with fail;go_roundw
      case rel=>exact ⟨k+1,cX s3 x,by omega,by go_num,HRZ.out,HS5.out,HO5.out,HC5.out⟩
      case measure=>simp [intOf];omega
     ·have HRZ:=Z (show (hX root).run s=(cX s3 x,.err (cA s3 x)) by rw [HRF.out,if_neg hz]);generalize cA s3 x=ee at *;have hz1:(ee == 0)=false:=by simpa using hz
      go_wp2_with fail;go_ret;rw [HRZ.out];exact ⟨rfl,HS5.out,HC5.out⟩
    ·have HRZ:=Z (show (hX root).run s=(s3,.ok ()) by rw [HRK.out,Bw (by omega)];rfl);have hk1:(ps.length:Int)<=(k:Int):=by omega
     clear ho;go_wp2_with fail;go_ret;rw [HRZ.out];exact ⟨rfl,HSK.out,HCK.out⟩
 | err x=>
   obtain ⟨rfl,hx0⟩:=hp;have hx1:(x == 0)=false:=by simpa using hx0
   have HR:=Z (show (hX root).run s=(s2,.err x) from aq HV.out);go_wp2_with fail;go_ret;rw [HR.out];exact ⟨rfl,HS.out,HC2.out⟩
end Go.Proofs.YtknioodagnjchaaGreatDoor
namespace Go.Proofs.YtknioodagnjchaaGreatDoor
open Go.Proofs.Tryz renaming prog->Bt
open Go.RowKit
section
variable {gs gm:Nat} {s s':Sf} {w:World} {root:Int} {k v:By}
theorem xU {n:Int} (hr:makeT.run s=(s',.ok n)) (hS:ShIs w gs gm s):Calls Bt 24 #[co gs] w fun e w'=>e=.returned (.tuple #[.int .i64 n,.int .i64 0])/\ShIs w' gs gm s'/\Ch (fun k=>k=gs\/k=gm) w w':=by have:=wg gs gm s w hS;rw [hr] at this;exact this
theorem pE (hr:(dS root k v).run s=(s',.ok ())) (hS:ShIs w gs gm s):Calls Bt 25 #[co gs,.int .i64 root,.string (ap k),.string (ap v)] w fun e w'=>e=.returned (.int .i64 0)/\ShIs w' gs gm s'/\Ch (fun k=>k=gs\/k=gm) w w':=by have:=tj root k v gs gm s w hS;rw [hr] at this;exact this
theorem xH {x:Int} (hr:(dS root k v).run s=(s',.err x)) (hS:ShIs w gs gm s):Calls Bt 25 #[co gs,.int .i64 root,.string (ap k),.string (ap v)] w fun e w'=>e=.returned (.int .i64 x)/\ShIs w' gs gm s'/\Ch (fun k=>k=gs\/k=gm) w w':=by have:=tj root k v gs gm s w hS;rw [hr] at this;exact this
theorem wP {b:Bool} (hr:(kz root k).run s=(s',.ok b)) (hS:ShIs w gs gm s):Calls Bt 27 #[co gs,.int .i64 root,.string (ap k)] w fun e w'=>e=.returned (.tuple #[.bool b,.int .i64 0])/\ShIs w' gs gm s'/\Ch (fun k=>k=gs\/k=gm) w w':=by have:=yd root k gs gm s w hS;rw [hr] at this;exact this
theorem wJ (hr:(ex 20 root k).run s=(s',.ok (some v))) (hS:ShIs w gs gm s):Calls Bt 22 #[co gs,.int .i64 root,.string (ap k)] w fun e w'=>e=.returned (.tuple #[.string (ap v),.bool true,.int .i64 0])/\ShIs w' gs gm s'/\Ch (fun k=>k=gs\/k=gm) w w':=by have:=xY root k gs gm s w hS;rw [hr] at this;exact this
theorem tu {l:List Int} (hr:(iG root).run s=(s',.ok l)) (hS:ShIs w gs gm s):Calls Bt 28 #[co gs,.int .i64 root] w fun e w'=>(∃ v,e=.returned (.tuple #[v,.int .i64 0])/\Own iC 1 3 w.heap.size w' v l/\l.length<=10000)/\ShIs w' gs gm s'/\Ch (fun k=>k=gs\/k=gm) w w':=by have:=qO root gs gm s w hS;rw [hr] at this;exact this
theorem ya (hr:(hX root).run s=(s',.ok ())) (hS:ShIs w gs gm s):Calls Bt 30 #[co gs,.int .i64 root] w fun e w'=>e=.returned (.int .i64 0)/\ShIs w' gs gm s'/\Ch (fun k=>k=gs\/k=gm) w w':=by have:=wO root gs gm s w hS;rw [hr] at this;exact this
end
end Go.Proofs.YtknioodagnjchaaGreatDoor
namespace Go.Proofs.YtknioodagnjchaaGreatDoor
open List renaming replicate->Bt
open Go.Lib renaming hid->Z
open Go.RowKit
theorem eP {α:Type} {p:Sf × Ans α} {a:Ans α} (h:p.2=a):p=(p.1,a):=by rw [<- h]
def zm:Sf:=dA 500
def yT:Sf:=(makeT.run zm).1
def yS:Sf:=((dS 1 [98] [120]).run yT).1
def yR:Sf:=((dS 1 [97] [121]).run yS).1
def yQ:Sf:=((dS 1 [98] [122]).run yR).1
def yP:Sf:=((ex 20 1 [98]).run yQ).1
def yO:Sf:=((kz 1 [99]).run yP).1
def yN:Sf:=((iG 1).run yO).1
def yM:Sf:=((dS 1 (Bt 65 0) []).run yN).1
def aS9:Sf:=((hX 1).run yM).1
theorem aw1:(makeT.run zm).2=.ok 1:=by kernel_rfl
theorem ar1:(makeT.run zm)=(yT,.ok 1):=by unfold yT;exact eP aw1
theorem aw2:((dS 1 [98] [120]).run yT).2=.ok ():=by kernel_rfl
theorem ar2:((dS 1 [98] [120]).run yT)=(yS,.ok ()):=by unfold yS;exact eP aw2
theorem aw3:((dS 1 [97] [121]).run yS).2=.ok ():=by kernel_rfl
theorem ar3:((dS 1 [97] [121]).run yS)=(yR,.ok ()):=by unfold yR;exact eP aw3
theorem aw4:((dS 1 [98] [122]).run yR).2=.ok ():=by kernel_rfl
theorem ar4:((dS 1 [98] [122]).run yR)=(yQ,.ok ()):=by unfold yQ;exact eP aw4
theorem aw5:((ex 20 1 [98]).run yQ).2=.ok (some [122]):=by kernel_rfl
theorem ar5:((ex 20 1 [98]).run yQ)=(yP,.ok (some [122])):=by unfold yP;exact eP aw5
theorem aw6:((kz 1 [99]).run yP).2=.ok false:=by kernel_rfl
theorem ar6:((kz 1 [99]).run yP)=(yO,.ok false):=by unfold yO;exact eP aw6
theorem aw7:((iG 1).run yO).2=.ok [1]:=by kernel_rfl
theorem ar7:((iG 1).run yO)=(yN,.ok [1]):=by unfold yN;exact eP aw7
theorem aw8:((dS 1 (Bt 65 0) []).run yN).2=.err 1:=by kernel_rfl
theorem ar8:((dS 1 (Bt 65 0) []).run yN)=(yM,.err 1):=by unfold yM;exact eP aw8
theorem aw9:((hX 1).run yM).2=.ok ():=by kernel_rfl
theorem ar9:((hX 1).run yM)=(aS9,.ok ()):=by unfold aS9;exact eP aw9
theorem zA:aS9.h.spare=1:=by kernel_rfl
theorem lZ (a b c d e f:Int) (w:World):(Instr.field 51 (.agg #[.int .i64 a,.int .i64 b,.int .i64 c,.int .i64 d,.int .i64 e,.int .u64 f]) 3).run Tryz.prog w=.ok (.int .i64 d) w:=by kernel_rfl
theorem tJ (a b c d e f:Int) (w:World):(Instr.field 51 (.agg #[.int .i64 a,.int .i64 b,.int .i64 c,.int .i64 d,.int .i64 e,.int .u64 f]) 1).run Tryz.prog w=.ok (.int .i64 b) w:=by kernel_rfl
theorem rC (w:World):Calls Tryz.prog 14 #[] w fun e w'=>e=.returned (.bool true)/\Below w.heap.size w w':=by
 go_enter Tryz.func14,Tryz.ntmps14;go_wp2_with fail;refine (gL 500 w).mono ?_;rintro e w1 ⟨gs,gm,rfl,hs,h1,h2,hb⟩;have HS1:=Z (show ShIs w1 gs gm zm from hs);have HB1:=Z hb;have HG:=Z (And.intro h1 h2);clear hs h1 h2 hb;go_wp2_with fail;refine (xU (gs:=gs) (gm:=gm) (s:=zm) (s':=yT) (w:=w1) ar1 HS1.out).mono ?_;rintro e w2 ⟨rfl,hs,hc⟩;have HS2:=Z hs;have HB2:=Z (HB1.out.trans (hc.below HB1.out.size (fun k hk=>hk.elim (fun e=>e ▸ HG.out.1) (fun e=>e ▸ HG.out.2))));clear hs hc;go_wp2_with fail;refine (pE (root:=1) (k:=[98]) (v:=[120]) (gs:=gs) (gm:=gm) (s:=yT) (s':=yS) (w:=w2) ar2 HS2.out).mono ?_;rintro e w3 ⟨rfl,hs,hc⟩;have HS3:=Z hs;have HB3:=Z (HB2.out.trans (hc.below HB2.out.size (fun k hk=>hk.elim (fun e=>e ▸ HG.out.1) (fun e=>e ▸ HG.out.2))));clear hs hc;go_wp2_with fail;refine (pE (root:=1) (k:=[97]) (v:=[121]) (gs:=gs) (gm:=gm) (s:=yS) (s':=yR) (w:=w3) ar3 HS3.out).mono ?_;rintro e w4 ⟨rfl,hs,hc⟩;have HS4:=Z hs;have HB4:=Z (HB3.out.trans (hc.below HB3.out.size (fun k hk=>hk.elim (fun e=>e ▸ HG.out.1) (fun e=>e ▸ HG.out.2))));clear hs hc;go_wp2_with fail;refine (pE (root:=1) (k:=[98]) (v:=[122]) (gs:=gs) (gm:=gm) (s:=yR) (s':=yQ) (w:=w4) ar4 HS4.out).mono ?_;rintro e w5 ⟨rfl,hs,hc⟩;have HS5:=Z hs;have HB5:=Z (HB4.out.trans (hc.below HB4.out.size (fun k hk=>hk.elim (fun e=>e ▸ HG.out.1) (fun e=>e ▸ HG.out.2))));clear hs hc;go_wp2_with fail;refine (wJ (root:=1) (k:=[98]) (v:=[122]) (gs:=gs) (gm:=gm) (s:=yQ) (s':=yP) (w:=w5) ar5 HS5.out).mono ?_;rintro e w6 ⟨rfl,hs,hc⟩;have HS6:=Z hs;have HB6:=Z (HB5.out.trans (hc.below HB5.out.size (fun k hk=>hk.elim (fun e=>e ▸ HG.out.1) (fun e=>e ▸ HG.out.2))));clear hs hc;go_wp2_with fail;refine (wP (root:=1) (k:=[99]) (b:=false) (gs:=gs) (gm:=gm) (s:=yP) (s':=yO) (w:=w6) ar6 HS6.out).mono ?_;rintro e w7 ⟨rfl,hs,hc⟩;have HS7:=Z hs;have HB7:=Z (HB6.out.trans (hc.below HB6.out.size (fun k hk=>hk.elim (fun e=>e ▸ HG.out.1) (fun e=>e ▸ HG.out.2))));clear hs hc;go_wp2_with fail;refine (tu (gs:=gs) (gm:=gm) (s:=yO) (s':=yN) (w:=w7) (root:=1) (l:=[1]) ar7 HS7.out).mono ?_;rintro e w8 ⟨⟨v,rfl,ho,-⟩,hs,hc⟩;have HS8:=Z hs;have HO8:=Z ho;have HB8:=Z (HB7.out.trans (hc.below HB7.out.size (fun k hk=>hk.elim (fun e=>e ▸ HG.out.1) (fun e=>e ▸ HG.out.2))));have HN:=Z (show gs<w7.heap.size/\gm<w7.heap.size from ⟨aj HS7.out.blk,HS7.out.book.lt⟩);obtain ⟨A,c,rfl⟩:=Sl.zM (ho.sl ax);clear ho hs hc;have hmk:(Instr.makeSlice 46 (.int .i64 65) (.int .i64 65)).run Tryz.prog w8=.ok (.slice (some ⟨w8.heap.size,0,none⟩) 65 65) (w8.alloc (.cells ((Bt 65 (0:UInt8)).flatMap uC).toArray 5)):=ko w8 65 (by omega);have HM0:=Z (ag (w0:=w8) (g:=w8.heap.size) (o:=.cells ((Bt 65 (0:UInt8)).flatMap uC).toArray 5) rfl);have HW0:=Z (Below.alloc (Below.refl _ w8) (Nat.le_refl _) (.cells ((Bt 65 (0:UInt8)).flatMap uC).toArray 5));generalize w8.alloc (.cells ((Bt 65 (0:UInt8)).flatMap uC).toArray 5)=w9 at *;have hcv:(convert 46 9 (.slice (some ⟨w8.heap.size,0,none⟩) 65 65)).run Tryz.prog w9=.ok (.string (ap (Bt 65 0))) w9:=ia w9 w8.heap.size 65 65 (Bt 65 0) (by simp) (ic HM0.out);have HS9:=Z (HS8.out.ch (S:=fun _=>False) (Ch.zK HW0.out) id id);have HB9:=Z (HB8.out.trans (HW0.out.mono HB8.out.size));have HO9:=Z (HO8.out.below HW0.out);go_wp2_with fail;refine (xH (gs:=gs) (gm:=gm) (s:=yN) (s':=yM) (w:=w9) (root:=1) (k:=Bt 65 0) (v:=[]) (x:=1) ar8 HS9.out).mono ?_;rintro e w10 ⟨rfl,hs,hc⟩;have HS10:=Z hs;have HO10:=Z (HO9.out.ch hc (fun k hk e=>by have:=(HO8.out.lt k hk).1;have:=HN.out.1;have:=HN.out.2;omega));have HB10:=Z (HB9.out.trans (hc.below HB9.out.size (fun k hk=>hk.elim (fun e=>e ▸ HG.out.1) (fun e=>e ▸ HG.out.2))));clear hs hc hmk hcv;go_wp2_with fail;refine (ya (gs:=gs) (gm:=gm) (s:=yM) (s':=aS9) (w:=w10) (root:=1) ar9 HS10.out).mono ?_;rintro e w11 ⟨rfl,hs,hc⟩;have HS11:=Z hs;have HO11:=Z (HO10.out.ch hc (fun k hk e=>by have:=(HO8.out.lt k hk).1;have:=HN.out.1;have:=HN.out.2;omega));have HB11:=Z (HB10.out.trans (hc.below HB10.out.size (fun k hk=>hk.elim (fun e=>e ▸ HG.out.1) (fun e=>e ▸ HG.out.2))));clear hs hc;rcases (HO11.out.sl ax).cases with ⟨_,_,_,h0⟩ | ⟨b,off,c2,he,-,hbl,hsl⟩
 ·cases h0
 injection he with he1 he2 he3
 subst he1 he3;obtain ⟨-,hcl⟩:=hsl.cells (k:=0) (by simp);have e0:w11.cell? ⟨b,off,none⟩=some (.int .i64 1):=by simpa [iC] using hcl 0 _ rfl
 have hz:(ap [122]).toList=[122]:=ay _;clear hcl hsl;go_wp2_with fail;refine (gV gs gm aS9 w11 HS11.out).mono ?_;rintro e w12 ⟨rfl,hb⟩;rw [zA];have hf3:=lZ;go_wp2_with fail;go_ret;exact ⟨rfl,HB11.out.trans (hb.mono HB11.out.size)⟩
end Go.Proofs.YtknioodagnjchaaGreatDoor
