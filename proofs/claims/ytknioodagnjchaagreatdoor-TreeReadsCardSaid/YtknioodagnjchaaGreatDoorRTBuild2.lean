/- strings.Builder: which blocks a write turns. -/
import Derived.Test.YtknioodagnjchaaGreatDoorRNo
set_option maxRecDepth 100000
set_option maxHeartbeats 2000000
namespace Go.Proofs.YtknioodagnjchaaGreatDoor
open Go.Lib (hid)
open Go.RowKit
def BuR (B b:Nat) (l:List UInt8) (r:Option Nat) (w:World):Prop:=
 B≤b∧∃ p v,(p=.pointer none∨p=.pointer (some ⟨b,0,none⟩))∧w.heap[b]?=some (.cells #[p,v] 206 (0,0))∧w.ownsRow B 5 1 v (Lib.byteCells l).length (Lib.byteCells l)∧v.ownBlock≠some b∧v.ownBlock=r
theorem BuR.new {w:World} {b:Nat} (hb:w.heap[b]?=some (.cells #[.pointer none,.slice none 0 0] 206 (0,0))) {B:Nat} (hB:B≤b):BuR B b [] none w:=
 ⟨hB,_,_,.inl rfl,hb,World.ownsRow_nil _ _ _ _,by simp [Value.ownBlock],rfl⟩
theorem qD {e:TypeId} {B n:Nat} {v:Value} {xs:List Value} {w w':World} {S:Nat→Prop} (h:w.ownsRow B e 1 v n xs) (hc:Ch S w w') (hn:∀ k,v.ownBlock=some k→¬ S k):w'.ownsRow B e 1 v n xs:=by
 refine ⟨h.1,?_⟩;rcases h.2 with h2 | ⟨g,cap,cur,hv,hb,hg,rest⟩
 ·exact .inl h2
 ·exact .inr ⟨g,cap,cur,hv,hb,hc.keep hg (hn g (by rw [hv];rfl)),rest⟩
theorem BuR.ch {B b:Nat} {l:List UInt8} {r:Option Nat} {w w':World} {S:Nat→Prop} (h:BuR B b l r w) (hc:Ch S w w') (h1:¬ S b) (h2:∀ k,r=some k→¬ S k):BuR B b l r w':=by obtain ⟨hB,p,v,hp,hb,ho,hn,hr⟩:=h;exact ⟨hB,p,v,hp,hc.keep hb h1,qD ho hc (fun k hk=>h2 k (by rw [← hr];exact hk)),hn,hr⟩
theorem kT (B b:Nat) (l s:List UInt8) (r:Option Nat) (w:World) (h:BuR B b l r w) (hlen:l.length≤1000000) (hs:s.length≤1000000) (hBw:B≤w.heap.size):
  Calls Tryz.prog 145 #[.pointer (some ⟨b,0,none⟩),.string (al s)] w fun e w'=>e=.returned (.tuple #[.int .i64 s.length,.nilIface])∧(∃ r',BuR B b (l ++ s) r' w')∧Ch (fun k=>k=b∨r=some k) w w':=by
 have HE:=hid (show Lib.byteCells (l ++ s)=Lib.byteCells l ++ Lib.strCells (al s) by simp [Lib.byteCells,Lib.strCells,al]);obtain ⟨i0,hi,hz0,hz1,hz2⟩:=info_parts o5;have HL:(Lib.byteCells l).length≤1000000:=by rw [Lib.byteCells_length];exact hlen
 have hsz:(al s).size=s.length:=aq s;have HSZ:=hid hsz;have hsl:(al s).size≤1000000:=by omega
 clear hsz
 have hcc:Calls Tryz.prog 182 #[.pointer (some ⟨b,0,none⟩)] w fun e w'=>e=.returned (.tuple #[])∧((B≤b∧∃ v,w'.heap[b]?=some (.cells #[.pointer (some ⟨b,0,none⟩),v] 206 (0,0))∧w'.ownsRow B 5 1 v (Lib.byteCells l).length (Lib.byteCells l)∧v.ownBlock≠some b∧v.ownBlock=r)∧Ch (fun k=>k=b∨r=some k) w w'):=by
  obtain ⟨hB,p,v,hp,hb,ho,hn,hr⟩:=h;rcases hp with rfl | rfl
  ·have hh:Lib.BuilderAt 206 5 B b (.pointer none) (Lib.byteCells l) w:=⟨hB,v,hb,ho,hn⟩;refine (fX b w hh.cell0 hh.shape hh.frozen0).mono ?_;rintro e w' ⟨rfl,rfl⟩;have hc:=(Ch.refl (fun j=>j=b) w).setCell (p:=⟨b,0,none⟩) rfl (.pointer (some ⟨b,0,none⟩));exact ⟨rfl,⟨hB,v,ah hb 0 (.pointer (some ⟨b,0,none⟩)),qD ho hc (fun k hk e=>hn (by rw [hk,e])),hn,hr⟩,hc.mono (fun _ _ e=>.inl e)⟩
  ·have hh:Lib.BuilderAt 206 5 B b (.pointer (some ⟨b,0,none⟩)) (Lib.byteCells l) w:=⟨hB,v,hb,ho,hn⟩;refine (gH b w hh.cell0).mono ?_;rintro e w' ⟨rfl,rfl⟩;exact ⟨rfl,⟨hB,v,hb,ho,hn,hr⟩,Ch.refl _ _⟩
 have HCC:=hid hcc;clear h hcc;go_enter Tryz.func145,Tryz.ntmps145;go_wp2_with fail;refine HCC.out.mono ?_;clear HCC;generalize Lib.byteCells l=bs at *;generalize al s=sv at *;rintro e w1 ⟨rfl,⟨hB,v,hbk,hown,hne,hvr⟩,hc1⟩;have HC1:=hid hc1;have hs1:=hc1.size;have HO:=hid hown;have HN:=hid hne;have HVR:=hid hvr;have HBK:=hid hbk;have c0:w1.cell? ⟨b,0,none⟩=some (.pointer (some ⟨b,0,none⟩)):=by rw [Lib.cell_of_heap hbk];rfl
 have c1:w1.cell? ⟨b,1,none⟩=some v:=by rw [Lib.cell_of_heap hbk];rfl
 have hlt:b<w1.heap.size:=aj hbk;clear hown hne hbk hc1 hvr;go_wp2_with (at_builtin;refine Lib.wpList_append_own_string _ rfl _ _ 46 9 rfl B 5 i0 Tryz.underlying46 Tryz.underlying9 hi hz0 hz1 hz2 _ _ _ rfl HO.out sv rfl ?c3 ?c4 ?c5 ?_)
 case c3=>unfold maxLen;omega
 case c4=>omega
 case c5=>omega
 intro v' w2 hown' hgrow hat;have hb2:w2.heap[b]?=some (.cells #[.pointer (some ⟨b,0,none⟩),v] 206 (0,0)):=by rw [hgrow.block b hlt (fun e=>HN.out e.symm)];exact HBK.out
 have d0:w2.cell? ⟨b,0,none⟩=some (.pointer (some ⟨b,0,none⟩)):=by rw [Lib.cell_of_heap hb2];rfl
 have d1:w2.cell? ⟨b,1,none⟩=some v:=by rw [Lib.cell_of_heap hb2];rfl
 have f1:w2.frozen? ⟨b,1,none⟩=false:=Lib.frozen_of_heap hb2 1;obtain ⟨ao,n',cap,rfl⟩:∃ ao n' cap,v'=.slice ao n' cap:=by
  rcases hown'.2 with ⟨hv,_⟩ | ⟨g,cap,cur,hv,_⟩
  ·exact ⟨_,_,_,hv⟩
  ·exact ⟨_,_,_,hv⟩
 have HP:=hid (Lib.BuilderAt.put (T:=206) (e:=5) hB hb2 (bs':=bs ++ Lib.strCells sv) (by simpa [Lib.strCells_length] using hown') (by decide));have HW:=hid ((HC1.out.then (Ch.of_grown (S:=fun k=>k=b∨r=some k) hgrow (fun k hk=>.inr (by rw [← HVR.out];exact hk))) (fun i e=>.inl e)).then ((Ch.refl (fun j=>j=b) w2).setCell (p:=⟨b,1,none⟩) rfl (.slice ao n' cap)) (fun i e=>.inl (.inl e)));clear hown' hgrow hb2;go_wp2_with fail;go_ret2;refine ⟨by rw [HSZ.out];rfl,?_,HW.out⟩;obtain ⟨hB9,v9,hb9,ho9,hn9⟩:=HP.out;exact ⟨_,hB9,_,v9,.inr rfl,hb9,by rw [HE.out];exact ho9,hn9,rfl⟩
theorem BuR.far {B B' b:Nat} {l:List UInt8} {r:Option Nat} {w:World} {v:Value} {xs:List Int} (h:BuR B b l r w) (ho:Own iC 1 3 B' w v xs):∀ k,v.ownBlock=some k→k≠b∧r≠some k:=by
 obtain ⟨hB,p,u,hp,hb,hu,hn,hr⟩:=h;intro k hk;rcases ho.2 with ⟨hv,_⟩ | ⟨g,cap,cur,hv,_,hg,_⟩
 ·rw [hv] at hk;simp [Value.ownBlock] at hk
 ·rw [hv] at hk;have hgk:g=k:=by simpa [Value.ownBlock] using hk
  subst hgk;refine ⟨fun e=>?_,fun e=>?_⟩
  ·rw [e,hb] at hg;simp at hg
  ·rw [← hr] at e;rcases hu.2 with ⟨hv2,_⟩ | ⟨g2,cap2,cur2,hv2,_,hg2,_⟩
   ·rw [hv2] at e;simp [Value.ownBlock] at e
   ·rw [hv2] at e;have:g2=g:=by simpa [Value.ownBlock] using e
    rw [this,hg] at hg2;simp at hg2
theorem qf {S:Nat→Prop} {a w:World} (h:Ch S a w) {p:Addr} (hp:S p.block) (n:Nat):Ch S a (w.freeze p n):=by
 refine h.then (S':=fun k=>k=p.block) ?_ (fun i e=>.inl (by rw [e];exact hp));unfold World.freeze
 split
 ·exact Ch.refl _ w
 ·exact ⟨rfl,rfl,rfl,by simp,fun k hk hn=>by
   simp only [Array.getElem?_modify];rw [if_neg (fun e=>hn e.symm)]⟩
theorem qm (B b:Nat) (l:List UInt8) (r:Option Nat) (w:World) (h:BuR B b l r w) (h0:l≠[]):
  Calls Tryz.prog 147 #[.pointer (some ⟨b,0,none⟩)] w fun e w'=>e=.returned (.string (al l))∧Ch (fun k=>r=some k) w w':=by
 obtain ⟨hB,p,v,hp,hbk,hown,hne,hr⟩:=h;have hl0:l.length≠0:=by simpa using h0
 rw [Lib.byteCells_length] at hown;obtain ⟨g,cap,cur,rfl,hbg,hg,hnc,hcm,hcs,htake⟩:∃ g cap cur,v=.slice (some ⟨g,0,none⟩) l.length cap∧B≤g∧w.heap[g]?=some (.cells cur 5 (0,0))∧l.length≤cap∧cap≤maxLen∧cur.size=cap * 1∧cur.toList.take (l.length * 1)=Lib.byteCells l:=by
  rcases hown.2 with ⟨_,hz⟩ | ⟨g,cap,cur,hv,r⟩
  ·exact absurd hz hl0
  ·exact ⟨g,cap,cur,hv,r⟩
 have hrg:r=some g:=by rw [← hr];rfl
 have c1:w.drew.cell? ⟨b,1,none⟩=some (.slice (some ⟨g,0,none⟩) l.length cap):=by have:w.drew.heap[b]?=some (.cells #[p,.slice (some ⟨g,0,none⟩) l.length cap] 206 (0,0)):=hbk;rw [Lib.cell_of_heap this];rfl
 have hSD:(Builtin.unsafeSliceData_ #[46] 231 #[.slice (some ⟨g,0,none⟩) l.length cap]).run Tryz.prog w.drew=.ok (.pointer (some ⟨g,0,none⟩)) w.drew:=
  Lib.run_unsafeSliceData_row _ _ _ _ _ _ (by omega)
 have hUS:(Builtin.unsafeString_ #[231,3] 9 #[.pointer (some ⟨g,0,none⟩),.int .i64 l.length]).run Tryz.prog w.drew=.ok (.string (al l)) (w.drew.freeze ⟨g,0,none⟩ l.length):=by refine Lib.run_unsafeString_row w.drew 231 3 9 5 Tryz.underlying231 (by kernel_rfl) g cur.size (by have hg':w.drew.heap[g]?=some (.cells cur 5 (0,0)):=hg;simp [World.shape?,hg']) l h0 (by omega) (by unfold maxLen at hcm;omega) ?_;intro j x hx;exact hown.cells (g:=g) rfl j (.int .u8 x.toNat) (by simp [Lib.byteCells,hx])
 go_enter Tryz.func147,Tryz.ntmps147;go_wp2;go_region
 all_goals (go_wp2;go_ret;exact ⟨rfl,qf (Ch.drew (Ch.refl _ w)) (p:=⟨g,0,none⟩) hrg _⟩)
end Go.Proofs.YtknioodagnjchaaGreatDoor
