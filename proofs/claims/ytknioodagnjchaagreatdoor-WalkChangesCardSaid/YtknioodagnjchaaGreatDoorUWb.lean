/- walk: what Up and Down give to over. A range over an iterator that looks into memory between two rounds: what it tells of each element; the law of the loop, outermost and within a round. walk: over's iterator, as a SeqX. walk: Up and Down: what they give, and what a range over it is told. -/
import Derived.Test.YtknioodagnjchaaGreatDoorUWa
import Derived.Test.YtknioodagnjchaaGreatDoorUBa
import Derived.RangeFuncNested
import Derived.RangeFuncBound
import Derived.Shelf.AbstractIn
import Derived.RangeFuncMany
import Derived.RangeFuncStops
import Derived.RangeFuncLeaves
import Derived.OwnWalkIn
import Derived.TacticsInMore
import Derived.RegionIn
import Derived.LoopNIn
import Derived.LoopIn
import Derived.Sort.LoopGhostIn
set_option maxRecDepth 100000
set_option maxHeartbeats 4000000
namespace Go.Proofs.YtknioodagnjchaaGreatDoor
open Go.Lib (hid)
open Go.RowKit
theorem oY:∀ a b:By,decide (Lib.compareBytes a b<0)=aU a b
 | [],[]=>rfl
 | [],_ :: _=>rfl
 | _ :: _,[]=>rfl
 | a :: x,b :: y=>by
   have ih:=oY x y;unfold aU at ih;unfold Lib.compareBytes aU Op.bytesLess;by_cases h:a<b
   ·simp [h]
   ·by_cases h2:b<a
    ·have hne:¬ a=b:=fun e=>by subst e;exact h h2
     simp [h,h2,hne]
    ·have he:a=b:=UInt8.le_antisymm (UInt8.not_lt.1 h2) (UInt8.not_lt.1 h);subst he;simp [h,← ih]
structure RdK (gs:Nat) (at_:Int) (b0 b1:Nat) (W:World):Prop where
 bp:Bx W b0 107 (bt gs)
 br:Bx W b1 3 (.int .i64 at_)
theorem RdK.keep {gs:Nat} {at_:Int} {b0 b1:Nat} {W W':World} (h:RdK gs at_ b0 b1 W) (hb:Below W.heap.size W W'):RdK gs at_ b0 b1 W':=⟨h.bp.keep hb,h.br.keep hb⟩
theorem RdK.ch {gs:Nat} {at_:Int} {b0 b1:Nat} {W W':World} {S:Nat→Prop} (h:RdK gs at_ b0 b1 W) (hc:Ch S W W') (h0:¬ S b0) (h1:¬ S b1):RdK gs at_ b0 b1 W':=⟨h.bp.ch hc h0,h.br.ch hc h1⟩
theorem tT (low:By) (at_:Int) (b0 b1 b2 gs gm:Nat) (s:Sf) (w:World) (hS:ShIs w gs gm s) (hR:RdK gs at_ b0 b1 w) (hL:Bx w b2 9 (.string (ap low))):Calls Tryz.prog 85 #[.pointer (some ⟨b0,0,none⟩),.pointer (some ⟨b1,0,none⟩),.pointer (some ⟨b2,0,none⟩)] w fun e w'=>e=.returned (dm ((au (cY low false) 20 at_).run s).2)∧ShIs w' gs gm ((au (cY low false) 20 at_).run s).1∧Ch (fun k=>k=gs∨k=gm) w w':=by
 have hgs:=aj hS.blk;have hgm:=hS.book.lt;have HW1:=hid ((Below.refl _ w).alloc (Nat.le_refl _) (dj ([],[])));have HP1:=hid (ag (w0:=w) (g:=w.heap.size) (o:=dj ([],[])) rfl);have HS1:=hid (hS.ch (S:=fun _=>False) (Ch.of_below HW1.out) id id);have HR1:=hid (hR.keep HW1.out);have HL1:=hid (hL.keep HW1.out);clear hS hR hL;go_enter Tryz.func85,Tryz.ntmps85;go_upto_region 1 with fail
 generalize hw1:w.alloc (.cells #[.string ⟨#[]⟩,.string ⟨#[]⟩] 62)=w1 at *;have hw2:w.alloc (dj ([],[]))=w1:=hw1;rw [hw2] at HW1 HP1 HS1 HR1 HL1;clear hw1 hw2;have HFN:=hid (jr low false at_ gs gm s w1 HS1.out);have l0:=HL1.out.cell;have l1:=HL1.out.lt;obtain ⟨⟨s4,a⟩,hx⟩:∃ x,(au (cY low false) 20 at_).run s=x:=⟨_,rfl⟩;rw [hx] at HFN;have HX0:=hid hx;clear hx;unfold bt at HFN;have r0:=HR1.out.bp.cell;unfold bt at r0;have r1:=HR1.out.br.cell;have r2:=HR1.out.bp.lt;have r3:=HR1.out.br.lt;go_wp2_with fail;refine HFN.out.mono ?_;rintro e w4 ⟨rfl,hs,hc⟩;have HP4:=hid (hc.keep HP1.out (by omega));have HS4:=hid hs;have hsz4:=hc.size;have HC4:=hid ((Ch.of_below (S:=fun k=>k=gs∨k=gm) HW1.out).trans hc);clear hs hc r0 r1 r2 r3 l0 l1;obtain ⟨p0,p1,p2,p3,p4⟩:=ak HP4.out;unfold dm;go_wp2_with fail;have hf:=aS HP4.out (bQ a);obtain ⟨z0,z1,-,-,-⟩:=ak hf;have HC0:=aN (S:=fun j=>j=w.heap.size) (Ch.refl _ w4) rfl (.string (ap (bQ a).1)) (.string (ap (bQ a).2))
 exact bodyPost_ret (v:=dm a) (by simp [results,Tryz.results85,go_sem,dm,z0,z1]) rfl
  ⟨by rw [HX0.out],by rw [HX0.out];exact HS4.out.ch HC0 (by omega) (by omega),HC4.out.then HC0 (fun i hi=>.inr (by omega))⟩
theorem tS (k:By) (at_:Int) (b0 b1 gs gm:Nat) (s:Sf) (w:World) (hS:ShIs w gs gm s) (hR:RdK gs at_ b0 b1 w):Calls Tryz.prog 86 #[.string (ap k),.pointer (some ⟨b0,0,none⟩),.pointer (some ⟨b1,0,none⟩)] w fun e w'=>e=.returned (dm ((au (cY k true) 20 at_).run s).2)∧ShIs w' gs gm ((au (cY k true) 20 at_).run s).1∧Ch (fun k=>k=gs∨k=gm) w w':=by
 have hgs:=aj hS.blk;have hgm:=hS.book.lt;have HW1:=hid ((Below.refl _ w).alloc (Nat.le_refl _) (dj ([],[])));have HP1:=hid (ag (w0:=w) (g:=w.heap.size) (o:=dj ([],[])) rfl);have HS1:=hid (hS.ch (S:=fun _=>False) (Ch.of_below HW1.out) id id);have HR1:=hid (hR.keep HW1.out);clear hS hR;go_enter Tryz.func86,Tryz.ntmps86;go_upto_region 1 with fail
 generalize hw1:w.alloc (.cells #[.string ⟨#[]⟩,.string ⟨#[]⟩] 62)=w1 at *;have hw2:w.alloc (dj ([],[]))=w1:=hw1;rw [hw2] at HW1 HP1 HS1 HR1;clear hw1 hw2;have HFN:=hid (jr k true at_ gs gm s w1 HS1.out);obtain ⟨⟨s4,a⟩,hx⟩:∃ x,(au (cY k true) 20 at_).run s=x:=⟨_,rfl⟩;rw [hx] at HFN;have HX0:=hid hx;clear hx;unfold bt at HFN;have r0:=HR1.out.bp.cell;unfold bt at r0;have r1:=HR1.out.br.cell;have r2:=HR1.out.bp.lt;have r3:=HR1.out.br.lt;go_wp2_with fail;refine HFN.out.mono ?_;rintro e w4 ⟨rfl,hs,hc⟩;have HP4:=hid (hc.keep HP1.out (by omega));have HS4:=hid hs;have hsz4:=hc.size;have HC4:=hid ((Ch.of_below (S:=fun k=>k=gs∨k=gm) HW1.out).trans hc);clear hs hc r0 r1 r2 r3;obtain ⟨p0,p1,p2,p3,p4⟩:=ak HP4.out;unfold dm;go_wp2_with fail;have hf:=aS HP4.out (bQ a);obtain ⟨z0,z1,-,-,-⟩:=ak hf;have HC0:=aN (S:=fun j=>j=w.heap.size) (Ch.refl _ w4) rfl (.string (ap (bQ a).1)) (.string (ap (bQ a).2))
 exact bodyPost_ret (v:=dm a) (by simp [results,Tryz.results86,go_sem,dm,z0,z1]) rfl
  ⟨by rw [HX0.out],by rw [HX0.out];exact HS4.out.ch HC0 (by omega) (by omega),HC4.out.then HC0 (fun i hi=>.inr (by omega))⟩
theorem rJ (k:By) (at_:Int) (b0 b1 gs gm:Nat) (s:Sf) (w:World) (hS:ShIs w gs gm s) (hR:RdK gs at_ b0 b1 w):Calls Tryz.prog 90 #[.string (ap k),.pointer (some ⟨b0,0,none⟩),.pointer (some ⟨b1,0,none⟩)] w fun e w'=>e=.returned (dm ((au (kE k true) 20 at_).run s).2)∧ShIs w' gs gm ((au (kE k true) 20 at_).run s).1∧Ch (fun k=>k=gs∨k=gm) w w':=by
 have hgs:=aj hS.blk;have hgm:=hS.book.lt;have HW1:=hid ((Below.refl _ w).alloc (Nat.le_refl _) (dj ([],[])));have HP1:=hid (ag (w0:=w) (g:=w.heap.size) (o:=dj ([],[])) rfl);have HS1:=hid (hS.ch (S:=fun _=>False) (Ch.of_below HW1.out) id id);have HR1:=hid (hR.keep HW1.out);clear hS hR;go_enter Tryz.func90,Tryz.ntmps90;go_upto_region 1 with fail
 generalize hw1:w.alloc (.cells #[.string ⟨#[]⟩,.string ⟨#[]⟩] 62)=w1 at *;have hw2:w.alloc (dj ([],[]))=w1:=hw1;rw [hw2] at HW1 HP1 HS1 HR1;clear hw1 hw2;have HFN:=hid (mW k true at_ gs gm s w1 HS1.out);obtain ⟨⟨s4,a⟩,hx⟩:∃ x,(au (kE k true) 20 at_).run s=x:=⟨_,rfl⟩;rw [hx] at HFN;have HX0:=hid hx;clear hx;unfold bt at HFN;have r0:=HR1.out.bp.cell;unfold bt at r0;have r1:=HR1.out.br.cell;have r2:=HR1.out.bp.lt;have r3:=HR1.out.br.lt;go_wp2_with fail;refine HFN.out.mono ?_;rintro e w4 ⟨rfl,hs,hc⟩;have HP4:=hid (hc.keep HP1.out (by omega));have HS4:=hid hs;have hsz4:=hc.size;have HC4:=hid ((Ch.of_below (S:=fun k=>k=gs∨k=gm) HW1.out).trans hc);clear hs hc r0 r1 r2 r3;obtain ⟨p0,p1,p2,p3,p4⟩:=ak HP4.out;unfold dm;go_wp2_with fail;have hf:=aS HP4.out (bQ a);obtain ⟨z0,z1,-,-,-⟩:=ak hf;have HC0:=aN (S:=fun j=>j=w.heap.size) (Ch.refl _ w4) rfl (.string (ap (bQ a).1)) (.string (ap (bQ a).2))
 exact bodyPost_ret (v:=dm a) (by simp [results,Tryz.results90,go_sem,dm,z0,z1]) rfl
  ⟨by rw [HX0.out],by rw [HX0.out];exact HS4.out.ch HC0 (by omega) (by omega),HC4.out.then HC0 (fun i hi=>.inr (by omega))⟩
def v6 (high k:By):Bool:=high.isEmpty || aU k high
theorem tR (high k:By) (b:Nat) (w:World) (hB:Bx w b 9 (.string (ap high))):Calls Tryz.prog 87 #[.string (ap k),.pointer (some ⟨b,0,none⟩)] w fun e w'=>e=.returned (.bool (v6 high k))∧w'=w:=by
 have h0:=hB.cell;have h1:=hB.lt;clear hB;have HC:=hid (Tryz.strings_Compare (ap k) (ap high) w);rw [show (ap k).data.toList=k by simp [ap],show (ap high).data.toList=high by simp [ap]] at HC;have HK:=hid (oY k high);go_enter Tryz.func87,Tryz.ntmps87;cases high with
 | nil=> have he:(ap []).toList=[]:=aL [];go_wp2_with fail;go_ret;exact ⟨rfl,rfl⟩
 | cons a l=>
   have he:((ap (a :: l)).toList == [])=false:=by rw [aL];rfl
   have he2:¬ (ap (a :: l)).toList=[]:=by rw [aL];simp
   go_wp2_with fail;refine HC.out.mono ?_;rintro e w4 ⟨rfl,rfl⟩;go_wp2_with fail;go_ret;exact ⟨by rw [HK.out];rfl,rfl⟩
theorem rI (low k:By) (b:Nat) (w:World) (hB:Bx w b 9 (.string (ap low))):Calls Tryz.prog 91 #[.string (ap k),.pointer (some ⟨b,0,none⟩)] w fun e w'=>e=.returned (.bool (!aU k low))∧w'=w:=by have h0:=hB.cell;have h1:=hB.lt;clear hB;go_enter Tryz.func91,Tryz.ntmps91;go_wp2_with fail;go_ret;exact ⟨by simp [aU,aL],rfl⟩
end Go.Proofs.YtknioodagnjchaaGreatDoor
namespace Go.Proofs.YtknioodagnjchaaGreatDoor
open Go.RowKit
section
variable {F:Fence} {n:Nat} {P:Program} {σ α:Type}
def SeqX (F:Fence) (n:Nat) (P:Program) (gf:Nat) (lb:Array Value) (encs:α→Array Value) (Sh:σ→World→Prop) (St:σ→List α→World→σ→World→Prop) (Xx:σ→List α→α→Prop) (Ex:σ→List α→Prop) (Kb:σ→World→σ→World→Prop) (N:Nat) (w:World):Prop:=
 ∀ (l:Nat) (J:σ→List α→World→Prop) (Jx:List α→World→Prop) (W:World) (s0:σ),Below w.heap.size w W→
   (∀ s pre A,J s pre A→Sh s A∧pre.length≤N)→(∀ s pre A t B,J s pre A→St s pre A t B→J t pre B)→
   (∀ s pre x A,J s pre A→Xx s pre x→YieldAt F (n - 1) P l (encs x) A fun e B=>
     (e=.returned (.bool true)∧∃ t,J t (pre ++ [x]) B∧Kb s A t B)∨(e=.returned (.bool false)∧Jx (pre ++ [x]) B))→
   J s0 [] W→
   CallsIn F n P gf (#[.func (.yield l) #[] #[]] ++ lb) W fun e B=>(∃ v,e=.returned v)∧((∃ s xs,J s xs B∧Ex s xs)∨(∃ pre,Jx pre B))
def nh (B:Nat) (Kb:σ→World→σ→World→Prop) (I:σ→List α→World→Prop) (Ix:Code→List α→World→Prop) (s:σ) (xs:List α) (W:World):Exit→Act→World→Prop
 | .normal,_,W'=>KeepsFrom B W W'∧∃ t,Kb s W t W'∧I t xs W'
 | .ret,_,W'=>KeepsFrom B W W'∧Ix .ret xs W'
 | .exit id,_,W'=>KeepsFrom B W W'∧Ix (.exit id) xs W'
 | .goto t,_,W'=>KeepsFrom B W W'∧Ix (.goto t) xs W'
 | .panic _,_,_=>False
 | .outgrown,_,_=>False
def fL (B:Nat) (I:World→Prop):Prop:=∀ W l o o',I W→B≤l→W.heap[l]?=some o→o.isCells=false→I (W.putObj l o')
variable {g:Operand} {ps:Array Tmp} {assign body:Code} {Q:Exit→Act→World→Prop} {a:Act} {w:World}
 {gf:Nat} {lb:Array Value} {encs:α→Array Value} {Sh:σ→World→Prop} {St:σ→List α→World→σ→World→Prop} {Xx:σ→List α→α→Prop} {Ex:σ→List α→Prop} {Kb:σ→World→σ→World→Prop} {N:Nat} {w0:World}
 {I:σ→List α→World→Prop} {Ix:Code→List α→World→Prop} {Ax:α→Act→World→Prop}
theorem tP {fn:FuncId} (hfn:F.fn fn) {l:Nat} {rec:LoopState→Option Code→Loop} {tmps:Array Value} {D:Nat} (hrec:rec=fun st pe=>{ state:=st,pending:=pe,fn,tmps,params:=ps,assign,body,defers:=D })
  {B:Nat} (hBl:B≤l) (hKt:∀ {s t u:σ} {A B C:World},Kb s A t B→Kb t B u C→Kb s A u C) (hKb:∀ (s:σ) (pre:List α) (W:World) (o o':Obj),I s pre W→W.heap[l]?=some o→o.isCells=false→Kb s W s (W.putObj l o')) (hps:∀ x,(encs x).size=ps.size)
  (hI:∀ s pre,fL B (I s pre)) (hIx:∀ c pre,fL B (Ix c pre)) (hAx:∀ x a',fL B (Ax x a'))
  {s:σ} {pre:List α} {x:α} {W:World} (hl:W.heap[l]?=some (.loop (rec .ready none)))
  (hassign:∀ (K:Act→World→Prop),(∀ a' W',KeepsFrom B W W'→Kb s W s W'→I s pre W'→Ax x a' W'→K a' W')→
    assign.wpIn (F.inRound l) n P (Exit.then K (fun _ _ _=>False)) { tmps:=(ps.zip (encs x)).foldl (fun t (p,v)=>t.setIfInBounds p v) tmps,defers:=[] } W)
  (hbody:∀ (a':Act) (W:World),(∃ r,W.heap[l]?=some (.loop r))→I s pre W→Ax x a' W→body.wpIn (F.inRound l) n P (nh B Kb I Ix s (pre ++ [x]) W) a' W):
  YieldAt F n P l (encs x) W fun e W'=>
   (e=.returned (.bool true)∧(∃ t,I t (pre ++ [x]) W'∧W'.heap[l]?=some (.loop (rec .ready none))∧Kb s W t W')∧KeepsFrom (l+1) W W'∧∀ k o,B≤k→k<l→W.heap[k]?=some o→o.isCells=false→W'.heap[k]?=some o)∨
   (e=.returned (.bool false)∧∃ c,Ix c (pre ++ [x]) W'∧W'.heap[l]?=some (.loop (rec .done (some c)))∧∀ k o,B≤k→k<l→W.heap[k]?=some o→o.isCells=false→W'.heap[k]?=some o):=by
 have hlt:l<W.heap.size:=(Array.getElem?_eq_some_iff.1 hl).1;have hy:=run_yield (P:=P) (args:=encs x) hl (by rw [hrec];exact hps x);rw [hrec] at hy;refine ⟨fn,_,assign,body,hy,roundIn_of_wpIn hfn (hassign _ ?_)⟩;clear hy;intro a' Wa hkfa hkpa hia hax;have hla:=hkfa.same _ _ hBl hl rfl;have hlta:l<Wa.heap.size:=(Array.getElem?_eq_some_iff.1 hla).1;refine ⟨_,run_beginRound hla (by rw [hrec]),?_⟩;have hl2:(Wa.putObj l (.loop { rec .ready none with state:=.busy })).heap[l]?=some (.loop { rec .ready none with state:=.busy }):=World.putObj_heap_same hlta;have hw2:Kb s Wa s (Wa.putObj l (.loop { rec .ready none with state:=.busy })):=hKb _ _ _ _ _ hia hla rfl;have keep1:∀ k o,B≤k→k≠l→W.heap[k]?=some o→o.isCells=false→(Wa.putObj l (.loop { rec .ready none with state:=.busy })).heap[k]?=some o:=fun k o hB hk h ho=>(World.putObj_heap_other hk).trans (hkfa.same _ _ hB h ho)
 refine wpIn_mono (hbody a' _ ⟨_,hl2⟩ (hI _ _ _ _ _ _ hia hBl hla rfl) (hAx _ _ _ _ _ _ hax hBl hla rfl)) ?_
 have fin:∀ (jump:Option Code) (W3:World),KeepsFrom B (Wa.putObj l (.loop { rec .ready none with state:=.busy })) W3→
   (Instr.endRound l jump).run P W3=.ok (.bool jump.isNone) (W3.putObj l (.loop (rec (if jump.isNone then .ready else .done) jump)))∧
   W3.heap[l]?=some (.loop { rec .ready none with state:=.busy })∧
   (W3.putObj l (.loop (rec (if jump.isNone then .ready else .done) jump))).heap[l]?=some (.loop (rec (if jump.isNone then .ready else .done) jump))∧
   ∀ k o,B≤k→k≠l→W.heap[k]?=some o→o.isCells=false→(W3.putObj l (.loop (rec (if jump.isNone then .ready else .done) jump))).heap[k]?=some o:=fun jump W3 hk3=>by
  have hl3:=hk3.same _ _ hBl hl2 rfl;have:=run_endRound (P:=P) jump hl3;rw [hrec] at this ⊢;exact ⟨this,by rw [hrec] at hl3;exact hl3,World.putObj_heap_same (Array.getElem?_eq_some_iff.1 hl3).1,fun k o hB hk h ho=>(World.putObj_heap_other hk).trans (hk3.same _ _ hB (keep1 k o hB hk h ho) ho)⟩
 rintro e a3 W3 hp;cases e with
 | normal=> obtain ⟨hk3,t,hkp3,hi3⟩:=hp;obtain ⟨hr,hl3,hl4,hk4⟩:=fin none W3 hk3;refine ⟨_,_,hr,.inl ⟨rfl,⟨t,hI _ _ _ _ _ _ hi3 hBl hl3 rfl,hl4,hKt hkpa (hKt (hKt hw2 hkp3) (hKb _ _ _ _ _ hi3 hl3 rfl))⟩,⟨?_,fun k o hB h ho=>hk4 k o (by omega) (by omega) h ho⟩,fun k o hB hk h ho=>hk4 k o hB (by omega) h ho⟩⟩;have s1:=hkfa.size;have s2:=hk3.size;simp [World.putObj] at s2 ⊢;omega
 | ret=> obtain ⟨hk3,hi3⟩:=hp;obtain ⟨hr,hl3,hl4,hk4⟩:=fin (some .ret) W3 hk3;exact ⟨_,_,hr,.inr ⟨rfl,.ret,hIx _ _ _ _ _ _ hi3 hBl hl3 rfl,hl4,fun k o hB hk h ho=>hk4 k o hB (by omega) h ho⟩⟩
 | exit id=> obtain ⟨hk3,hi3⟩:=hp;obtain ⟨hr,hl3,hl4,hk4⟩:=fin (some (.exit id)) W3 hk3;exact ⟨_,_,hr,.inr ⟨rfl,.exit id,hIx _ _ _ _ _ _ hi3 hBl hl3 rfl,hl4,fun k o hB hk h ho=>hk4 k o hB (by omega) h ho⟩⟩
 | goto t=> obtain ⟨hk3,hi3⟩:=hp;obtain ⟨hr,hl3,hl4,hk4⟩:=fin (some (.goto t)) W3 hk3;exact ⟨_,_,hr,.inr ⟨rfl,.goto t,hIx _ _ _ _ _ _ hi3 hBl hl3 rfl,hl4,fun k o hB hk h ho=>hk4 k o hB (by omega) h ho⟩⟩
 | panic ch=>exact hp.elim
 | outgrown=>exact hp.elim
theorem mX (hro:F.round=none) (h1:1≤n) (hg:a.eval g=.func (.func gf) #[] lb) (hFg:F.fn gf) (eg:∀ args w,(callFunc gf args).run P w=.ok (.enter gf args) w)
  (hseq:SeqX F (n - 1) P gf lb encs Sh St Xx Ex Kb N w0) (hb0:Below w0.heap.size w0 w)
  (hKt:∀ {s t u:σ} {A B C:World},Kb s A t B→Kb t B u C→Kb s A u C) (hKb:∀ (s:σ) (pre:List α) (W:World) (l:Nat) (o o':Obj),w.heap.size≤l→l<w.heap.size+2→I s pre W→W.heap[l]?=some o→o.isCells=false→Kb s W s (W.putObj l o')) (hps:∀ x,(encs x).size=ps.size)
  (hI:∀ s pre,fL w.heap.size (I s pre)) (hIx:∀ c pre,fL w.heap.size (Ix c pre)) (hAx:∀ x a',fL w.heap.size (Ax x a'))
  (hSt:∀ s pre A t B,I s pre A→St s pre A t B→∀ k o,w.heap.size≤k→k<w.heap.size+2→A.heap[k]?=some o→o.isCells=false→B.heap[k]?=some o) (hISt:∀ s pre A t B,I s pre A→St s pre A t B→I t pre B) (hISh:∀ s pre A,I s pre A→Sh s A∧pre.length≤N)
  {s0:σ} (hal:∀ (W:World),Below w.heap.size w W→W.heap.size=w.heap.size+2→I s0 [] W)
  (hassign:∀ (l:Nat) (s:σ) (pre:List α) (x:α) (W:World) (K:Act→World→Prop),I s pre W→(∀ a' W',KeepsFrom w.heap.size W W'→Kb s W s W'→I s pre W'→Ax x a' W'→K a' W')→
    assign.wpIn (F.inRound l) (n - 1 - 1) P (Exit.then K (fun _ _ _=>False)) { tmps:=(ps.zip (encs x)).foldl (fun t (p,v)=>t.setIfInBounds p v) a.tmps,defers:=[] } W)
  (hbody:∀ (l:Nat) (s:σ) (pre:List α) (x:α) (a':Act) (W:World),w.heap.size≤l→(∃ r,W.heap[l]?=some (.loop r))→I s pre W→Xx s pre x→Ax x a' W→body.wpIn (F.inRound l) (n - 1 - 1) P (nh w.heap.size Kb I Ix s (pre ++ [x]) W) a' W)
  (hdone:∀ (D:Nat) (s:σ) (xs:List α) (W:World),w.heap.size≤D→Ex s xs→I s xs W→W.heap[D]?=some (.deferred (some []))→Q .normal { a with defers:={ target:=.collected D,args:=#[] } :: a.defers } W)
  (hstop:∀ (D:Nat) (c:Code) (pre:List α) (W:World),w.heap.size≤D→Ix c pre W→W.heap[D]?=some (.deferred (some []))→c.wpIn F n P Q { a with defers:={ target:=.collected D,args:=#[] } :: a.defers } W):
  (Code.rangeFunc g ps assign body).wpIn F n P Q a w:=by
 refine wpIn_rangeFunc ?_;intro fn hfn;rw [hro];obtain ⟨rec,hrec⟩:∃ rec:LoopState→Option Code→Loop,rec=fun st pe=>{ state:=st,pending:=pe,fn,tmps:=a.tmps,params:=ps,assign,body,defers:=w.heap.size }:=⟨_,rfl⟩
 obtain ⟨W1,hW1⟩:∃ W1,(w.alloc (.deferred (some []))).alloc (.loop (rec .ready none))=W1:=⟨_,rfl⟩;have hL1:W1.heap[w.heap.size+1]?=some (.loop (rec .ready none)):=by rw [← hW1];have:=World.alloc_heap_new (w.alloc (.deferred (some []))) (.loop (rec .ready none));rwa [World.size_alloc] at this
 have hK1:W1.heap[w.heap.size]?=some (.deferred (some [])):=by rw [← hW1];exact (Below.heap_alloc _ _ _ (by simp)).trans (World.alloc_heap_new w _)
 have hbw:Below w.heap.size w W1:=by rw [← hW1];exact ((Below.refl _ w).alloc (Nat.le_refl _) _).alloc (by simp) _
 have hI1:I s0 [] W1:=hal W1 hbw (by rw [← hW1];simp)
 refine ⟨w.heap.size+1,[{ target:=.collected w.heap.size,args:=#[] }],W1,{ target:=.fn (.func gf) lb,args:=#[.func (.yield (w.heap.size+1)) #[] #[]] },W1,gf,
  #[.func (.yield (w.heap.size+1)) #[] #[]] ++ lb,W1,?_,?_,?_,?_,fun _=>h1,?_⟩
 ·rw [← hW1,hrec];exact run_enterLoop_outer _ _ _ _ _
 ·simp only [resolve,hg];simp [go_sem]
 ·intro f' hf';simp [Target.leads] at hf';subst hf';exact hFg
 ·simp [invoke,go_sem,eg]
 ·refine (hseq (w.heap.size+1)
   (fun s pre W=>I s pre W∧W.heap[w.heap.size+1]?=some (.loop (rec .ready none))∧W.heap[w.heap.size]?=some (.deferred (some [])))
   (fun pre W=>∃ c,Ix c pre W∧W.heap[w.heap.size+1]?=some (.loop (rec .done (some c)))∧W.heap[w.heap.size]?=some (.deferred (some [])))
   W1 s0 (hb0.trans (hbw.mono hb0.size)) (fun s pre A h=>hISh s pre A h.1)
   (fun s pre A t B h hst=>⟨hISt s pre A t B h.1 hst,hSt _ _ _ _ _ h.1 hst _ _ (by omega) (by omega) h.2.1 rfl,hSt _ _ _ _ _ h.1 hst _ _ (Nat.le_refl _) (by omega) h.2.2 rfl⟩) ?_ ⟨hI1,hL1,hK1⟩).mono ?_
  ·rintro s pre x W ⟨hi,hl,hk⟩ hx;refine YieldAt.mono (tP (Kb:=Kb) (B:=w.heap.size) (D:=w.heap.size) hfn hrec (by omega) (fun h k=>hKt h k) (fun s pre W o o' hi h1 h2=>hKb s pre W _ o o' (by omega) (by omega) hi h1 h2) hps hI hIx hAx hl (fun K hK=>hassign _ s pre x W K hi hK) (fun a' W' hr hi' ha'=>hbody _ s pre x a' W' (by omega) hr hi' hx ha')) ?_;rintro e W' (⟨rfl,⟨t,h2,h3,h4⟩,-,h6⟩ | ⟨rfl,c,h2,h3,h4⟩)
   ·exact .inl ⟨rfl,t,⟨h2,h3,h6 _ _ (Nat.le_refl _) (by omega) hk rfl⟩,h4⟩
   ·exact .inr ⟨rfl,c,h2,h3,h4 _ _ (Nat.le_refl _) (by omega) hk rfl⟩
  ·rintro e W2 ⟨⟨v,rfl⟩,(⟨s,xs,⟨hi,hl,hk⟩,hE⟩ | ⟨pre,c,hi,hl,hk⟩)⟩
   ·exact ⟨none,_,by have:=run_endLoop (P:=P) hl (by rw [hrec];simp);rw [hrec] at this;exact this,hdone _ s xs _ (Nat.le_refl _) hE (hI _ _ _ _ _ _ hi (by omega) hl rfl) ((World.putObj_heap_other (by omega)).trans hk)⟩
   ·exact ⟨some c,_,by have:=run_endLoop (P:=P) hl (by rw [hrec];simp);rw [hrec] at this;exact this,hstop _ c pre _ (Nat.le_refl _) (hIx _ _ _ _ _ _ hi (by omega) hl rfl) ((World.putObj_heap_other (by omega)).trans hk)⟩
end
end Go.Proofs.YtknioodagnjchaaGreatDoor
namespace Go.Proofs.YtknioodagnjchaaGreatDoor
open Go.Lib (hid)
open Go.RowKit Go.Shelf
structure Ov where
 s:Sf
 g:Option Nat
 a:Ans (Option Pr)
def fC (x:Pr × Int):Array Value:=#[.agg #[.string (ap x.1.1),.string (ap x.1.2)],.int .i64 x.2]
def gS (FP:Pro (Option Pr)) (GP:By→Pro (Option Pr)) (pre:List (Pr × Int)):Pro (Option Pr):=match pre.getLast? with
 | none=>FP
 | some x=>GP x.1.1
theorem mp (FP:Pro (Option Pr)) (GP:By→Pro (Option Pr)):gS FP GP []=FP:=rfl
theorem iG (FP:Pro (Option Pr)) (GP:By→Pro (Option Pr)) (pre:List (Pr × Int)) (x:Pr × Int):gS FP GP (pre ++ [x])=GP x.1.1:=by unfold gS;rw [List.getLast?_append];rfl
def vB (gs gm:Nat) (s:Ov) (A:World):Prop:=ShIs A gs gm s.s
def qV (gs gm:Nat) (FP:Pro (Option Pr)) (GP:By→Pro (Option Pr)) (s:Ov) (pre:List (Pr × Int)) (A:World) (t:Ov) (B:World):Prop:=
 (gS FP GP pre).run s.s=(t.s,t.a)∧ShIs B gs gm t.s∧∃ g,t.g=some g∧(s.g=some g∨A.heap.size≤g)∧g<B.heap.size∧Ch (fun k=>k=gs∨k=gm∨k=g) A B
def qd (WN:By→Bool) (t:Ov) (pre:List (Pr × Int)) (x:Pr × Int):Prop:=(∀ y ∈ pre,y.2=0)∧((∃ p,t.a=.ok (some p)∧WN p.1=true∧x=(p,0))∨(∃ e,t.a=.err e∧¬ e=0∧x=(([],[]),e)))
def tN (WN:By→Bool) (t:Ov) (xs:List (Pr × Int)):Prop:=t.a=.ok none∨(∃ p,t.a=.ok (some p)∧WN p.1=false)∨(∃ pre e,xs=pre ++ [(([],[]),e)]∧¬ e=0)
def KbO (lo hi:Nat) (s:Ov) (A:World) (t:Ov) (B:World):Prop:=t.g=s.g∧A.heap.size≤B.heap.size∧∀ k,(lo≤k∧k<hi∨s.g=some k)→k<A.heap.size→B.heap[k]?=A.heap[k]?
theorem KbO.trans {lo hi:Nat} {s t u:Ov} {A B C:World} (h:KbO lo hi s A t B) (h2:KbO lo hi t B u C):KbO lo hi s A u C:=
 ⟨h2.1.trans h.1,Nat.le_trans h.2.1 h2.2.1,fun k hk hl=>(h2.2.2 k (hk.imp id fun e=>h.1.trans e) (Nat.lt_of_lt_of_le hl h.2.1)).trans (h.2.2 k hk hl)⟩
theorem t8 (F:Fence) (n:Nat) (hfn:∀ f,F.fn f) (hro:F.round=none) (hn:1≤n)
  (hco:∀ (f:FuncId) (m:Nat) (args:Array Value) (W:World) (Q:Ending→World→Prop),Calls Tryz.prog f args W Q→CallsIn F m Tryz.prog f args W Q)
  (lo hi b1 b2 b3 gs gm N:Nat) (e0 e1 e2 e3:Nat) (LK:World→Prop) (FP:Pro (Option Pr)) (GP:By→Pro (Option Pr)) (WN:By→Bool) (hfz:FP.NZ) (hgz:∀ k,(GP k).NZ)
  (hgs:¬ (lo≤gs∧gs<hi)) (hgm:¬ (lo≤gm∧gm<hi)) (hgh:gs<hi∧gm<hi)
  (hB:∀ W,LK W→Bx W b1 143 (.func (.func 85) #[] #[.pointer (some ⟨e0,0,none⟩),.pointer (some ⟨e1,0,none⟩),.pointer (some ⟨e2,0,none⟩)])∧Bx W b2 146 (.func (.func 87) #[] #[.pointer (some ⟨e3,0,none⟩)])∧Bx W b3 144 (.func (.func 86) #[] #[.pointer (some ⟨e0,0,none⟩),.pointer (some ⟨e1,0,none⟩)]))
  (hF:∀ W s,ShIs W gs gm s→LK W→Calls Tryz.prog 85 #[.pointer (some ⟨e0,0,none⟩),.pointer (some ⟨e1,0,none⟩),.pointer (some ⟨e2,0,none⟩)] W fun e w'=>e=.returned (dm (FP.run s).2)∧ShIs w' gs gm (FP.run s).1∧Ch (fun k=>k=gs∨k=gm) W w')
  (hG:∀ k W s,ShIs W gs gm s→LK W→Calls Tryz.prog 86 #[.string (ap k),.pointer (some ⟨e0,0,none⟩),.pointer (some ⟨e1,0,none⟩)] W fun e w'=>e=.returned (dm ((GP k).run s).2)∧ShIs w' gs gm ((GP k).run s).1∧Ch (fun k=>k=gs∨k=gm) W w')
  (hW:∀ k W,LK W→Calls Tryz.prog 87 #[.string (ap k),.pointer (some ⟨e3,0,none⟩)] W fun e w'=>e=.returned (.bool (WN k))∧w'=W)
  (hLK:∀ A B,LK A→(∀ k,lo≤k→k<hi→B.heap[k]?=A.heap[k]?)→LK B)
  (w:World) (hL:LK w) (hhi:hi≤w.heap.size):
  SeqX F n Tryz.prog 133 #[.pointer (some ⟨b1,0,none⟩),.pointer (some ⟨b2,0,none⟩),.pointer (some ⟨b3,0,none⟩)] fC (vB gs gm) (qV gs gm FP GP) (qd WN) (tN WN) (KbO lo hi) N w:=by
 intro l J Jx W s0 hWb hSh hSt hY hJ0;have HSH:=hid hSh;have HST:=hid hSt;have HY:=hid hY;have HF:=hid hF;have HG:=hid hG;have HWN:=hid hW;have HBX:=hid hB;have HLK:=hid hLK;have HFZ:=hid hfz;have HGZ:=hid hgz;have HJ0:=hid hJ0;have hLW:=hLK _ W hL fun k h1 h2=>hWb.block k (by omega)
 have HLW:=hid hLW;have HCO:=hid hco;have hsw:=hWb.size;have hgh1:=hgh.1;have hgh2:=hgh.2;have HS0:=hid (show ShIs W gs gm s0.s from (hSh s0 [] W hJ0).1);have HN0:=hid (hSh s0 [] W hJ0).2;obtain ⟨x1,x2,x3⟩:=hB W hLW;have c1:=x1.cell;have d1:=x1.lt;clear hSh hSt hY hF hG hW hB hLK hfz hgz hJ0 hLW hco x1 x2 x3 hgh;refine callsIn_of_wp Tryz.func133 rfl (hfn _) ?_ hro;simp only [Tryz.ntmps133,List.size_toArray,List.length_cons,List.length_nil,Nat.reduceAdd,Nat.reduceSub,Array.replicate_succ,Array.replicate_zero,List.push_toArray,List.append_toArray,List.nil_append,List.cons_append];gi_wp2;refine (HCO.out _ _ _ _ _ (HF.out W s0.s HS0.out HLW.out)).mono ?_;rintro e w1 ⟨rfl,hs,hc⟩;have hnz:=fun x=>Pro.NZ.run FP s0.s x HFZ.out
 obtain ⟨⟨s1,a⟩,hx⟩:∃ x,FP.run s0.s=x:=⟨_,rfl⟩;rw [hx] at hs hnz ⊢;have HX:=hid hx;have HS1:=hid hs;have HC1:=hid hc;have HNZ:=hid hnz;clear hx hs hc hnz c1 d1;have hs1:=HC1.out.size;unfold dm;gi_wp2;generalize hpa:bQ a=pa;generalize hia:fA a=ia;generalize hea:fB a=ea;gi_loopg [6,7] N (fun k s6 s7 wr=>∃ (pre:List (Pr × Int)) (t:Ov),s6=.bool (fA t.a)∧s7=.int .i64 (fB t.a)∧J t pre wr∧t.g=some w1.heap.size∧wr.heap[w1.heap.size]?=some (dj (bQ t.a))∧LK wr∧(∀ x,t.a=.err x→x≠0)∧k+pre.length=N∧hi≤wr.heap.size∧(∀ y ∈ pre,y.2=0))
 case atStart=>
  subst hpa hia hea;have hca:=Ch.alloc HC1.out (dj (bQ a));refine ⟨[],⟨s1,some w1.heap.size,a⟩,rfl,rfl,HST.out s0 [] W _ _ HJ0.out ⟨by rw [mp];exact HX.out,HS1.out.ch (S:=fun _=>False) (Ch.alloc (Ch.refl _ w1) _) id id,w1.heap.size,rfl,.inr hs1,by simp,hca.mono fun k _ h=>h.elim .inl (fun h=>.inr (.inl h))⟩,rfl,ag rfl,?_,HNZ.out,rfl,?_,fun y hy=>absurd hy List.not_mem_nil⟩
  ·exact HLK.out W _ HLW.out fun k h1 h2=>hca.block k (by omega) (by rintro (rfl | rfl);exact hgs ⟨h1,h2⟩;exact hgm ⟨h1,h2⟩)
  ·have:=hca.size;exact Nat.le_trans (by omega) this
 case round=>
  clear hpa hia hea;obtain ⟨pre,⟨s2,g2,a2⟩,rfl,rfl,hj,hg,hb,hlk,hnz,hk,hih,hz⟩:=hrel;dsimp only at hg hb hnz ⊢;subst hg;have HJ:=hid hj;have HZ:=hid hz;have HB:=hid hb;have HLW2:=hid hlk;have HSN:=HSH.out _ _ _ hj;have HS2:=hid HSN.1;have HPL:=hid HSN.2;have hgl:=aj hb;clear HSN hb hlk hj hz HX HS1 HC1 HNZ HJ0;rcases a2 with (_ | p) | x
  ·dsimp only [fA,fB,bQ] at HB ⊢;gi_wp2;refine bodyPost_ret (results_none rfl _ _ _) rfl ?_;exact ⟨⟨_,rfl⟩,.inl ⟨_,pre,HJ.out,.inl rfl⟩⟩
  ·dsimp only [fA,fB,bQ] at HB ⊢;obtain ⟨x1,x2,x3⟩:=HBX.out wr HLW2.out;have c2:=x2.cell;have d2:=x2.lt;obtain ⟨p0,p1,p2,p3,p4⟩:=ak HB.out;clear x1 x2 x3;gi_wp2;refine (HCO.out _ _ _ _ _ (HWN.out p.1 wr HLW2.out)).mono ?_;rintro e w2 ⟨rfl,rfl⟩;cases hw:WN p.1
   ·gi_wp2;refine bodyPost_ret (results_none rfl _ _ _) rfl ?_;exact ⟨⟨_,rfl⟩,.inl ⟨_,pre,HJ.out,.inr (.inl ⟨p,rfl,hw⟩)⟩⟩
   ·obtain ⟨fn,tmps,assign,body,hy,hR⟩:=HY.out _ pre (p,0) _ HJ.out ⟨HZ.out,.inl ⟨p,rfl,hw,rfl⟩⟩;dsimp only [fC] at hy;gi_wp2;refine hR.mono ?_;rintro e W3 (⟨rfl,t3,hj3,hkb⟩ | ⟨rfl,hjx⟩)
    ·have hb3:W3.heap[w1.heap.size]?=some (dj p):=(hkb.2.2 _ (.inr rfl) hgl).trans HB.out;have hl3:LK W3:=HLK.out _ W3 HLW2.out fun k h1 h2=>hkb.2.2 k (.inl ⟨h1,h2⟩) (by omega)
     have hg3:t3.g=some w1.heap.size:=hkb.1;have hs3:=hkb.2.1;have HSN:=HSH.out _ _ _ hj3;have HS3:=hid HSN.1;have hpl3:=HSN.2;rw [List.length_append] at hpl3;dsimp only [List.length_cons,List.length_nil] at hpl3;have HJ3:=hid hj3;have HL3:=hid hl3;have HB3:=hid hb3;have HG3:=hid hg3;obtain ⟨x1,x2,x3⟩:=HBX.out W3 hl3;have c3:=x3.cell;have d3:=x3.lt;clear hb3 hl3 hkb HSN hj3 x1 x2 x3 c2 d2 p0 p1 p2 p3 p4 hy hR hg3;obtain ⟨p0,p1,p2,p3,p4⟩:=ak HB3.out;gi_wp2;refine (HCO.out _ _ _ _ _ (HG.out p.1 W3 t3.s HS3.out HL3.out)).mono ?_;rintro e w5 ⟨rfl,hs,hc⟩;have hnz5:=fun x=>Pro.NZ.run (GP p.1) t3.s x (HGZ.out p.1)
     obtain ⟨⟨s5,a5⟩,hx⟩:∃ x,(GP p.1).run t3.s=x:=⟨_,rfl⟩;rw [hx] at hs hnz5 ⊢;have HX5:=hid hx;have HS5:=hid hs;have HC5:=hid hc;have HN5:=hid hnz5;have HB5:=hid (hc.keep HB3.out (by rintro (h | h) <;> omega));have hs5:=hc.size;clear hx hs hc hnz5 c3 d3 p0 p1 p2 p3 p4;obtain ⟨p0,p1,p2,p3,p4⟩:=ak HB5.out;unfold dm;gi_wp2;gi_roundg (gk - 1)
     case rel=>
      have hca:=(HC5.out.mono (S':=fun k=>k=gs∨k=gm∨k=w1.heap.size) (fun k _ h=>h.elim .inl (fun h=>.inr (.inl h)))).trans (aN (S:=fun k=>k=gs∨k=gm∨k=w1.heap.size) (Ch.refl _ w5) (.inr (.inr rfl)) (.string (ap (bQ a5).1)) (.string (ap (bQ a5).2)))
      refine ⟨pre ++ [(p,0)],⟨s5,some w1.heap.size,a5⟩,rfl,rfl,HST.out t3 _ W3 _ _ HJ3.out ⟨by rw [iG];exact HX5.out,HS5.out.ch (aN (S:=fun k=>k=w1.heap.size) (Ch.refl _ w5) rfl _ _) (by omega) (by omega),w1.heap.size,rfl,.inl HG3.out,Nat.lt_of_lt_of_le (Nat.lt_of_lt_of_le hgl hs3) hca.size,hca⟩,rfl,aS HB5.out _,?_,HN5.out,by rw [List.length_append];dsimp only [List.length_cons,List.length_nil];omega,?_,fun y hy=>by
       rcases List.mem_append.1 hy with hy | hy
       ·exact HZ.out y hy
       ·rw [List.mem_singleton.1 hy]⟩
      ·exact HLK.out W3 _ HL3.out fun k h1 h2=>hca.block k (by omega) (by rintro (rfl | rfl | rfl);exact hgs ⟨h1,h2⟩;exact hgm ⟨h1,h2⟩;omega)
      ·exact Nat.le_trans (by omega) hca.size
     case measure=>omega
    ·gi_wp2;refine bodyPost_ret (results_none rfl _ _ _) rfl ?_;exact ⟨⟨_,rfl⟩,.inr ⟨_,hjx⟩⟩
  ·dsimp only [fA,fB,bQ] at HB ⊢;have hx0:¬ x=0:=hnz x rfl;have hx1:(x == 0)=false:=by simpa using hx0
   obtain ⟨fn,tmps,assign,body,hy,hR⟩:=HY.out _ pre (([],[]),x) wr HJ.out ⟨HZ.out,.inr ⟨x,rfl,hx0,rfl⟩⟩;dsimp only [fC] at hy;rw [show ap []=⟨#[]⟩ from rfl] at hy;gi_wp2;refine hR.mono ?_;rintro e W3 (⟨rfl,t3,hj3,hkb⟩ | ⟨rfl,hjx⟩)
   ·gi_wp2;refine bodyPost_ret (results_none rfl _ _ _) rfl ?_;exact ⟨⟨_,rfl⟩,.inl ⟨t3,_,hj3,.inr (.inr ⟨pre,x,rfl,hx0⟩)⟩⟩
   ·gi_wp2;refine bodyPost_ret (results_none rfl _ _ _) rfl ?_;exact ⟨⟨_,rfl⟩,.inr ⟨_,hjx⟩⟩
theorem rn (F:Fence) (n:Nat) (hfn:∀ f,F.fn f) (hro:F.round=none) (hn:1≤n)
  (hco:∀ (f:FuncId) (m:Nat) (args:Array Value) (W:World) (Q:Ending→World→Prop),Calls Tryz.prog f args W Q→CallsIn F m Tryz.prog f args W Q)
  (lo hi b1 b2 b3 gs gm N:Nat) (e0 e1 e2 e3:Nat) (LK:World→Prop) (FP:Pro (Option Pr)) (GP:By→Pro (Option Pr)) (WN:By→Bool) (hfz:FP.NZ) (hgz:∀ k,(GP k).NZ)
  (hgs:¬ (lo≤gs∧gs<hi)) (hgm:¬ (lo≤gm∧gm<hi)) (hgh:gs<hi∧gm<hi)
  (hB:∀ W,LK W→Bx W b1 143 (.func (.func 89) #[] #[.pointer (some ⟨e3,0,none⟩),.pointer (some ⟨e0,0,none⟩),.pointer (some ⟨e1,0,none⟩)])∧Bx W b2 146 (.func (.func 91) #[] #[.pointer (some ⟨e2,0,none⟩)])∧Bx W b3 144 (.func (.func 90) #[] #[.pointer (some ⟨e0,0,none⟩),.pointer (some ⟨e1,0,none⟩)]))
  (hF:∀ W s,ShIs W gs gm s→LK W→Calls Tryz.prog 89 #[.pointer (some ⟨e3,0,none⟩),.pointer (some ⟨e0,0,none⟩),.pointer (some ⟨e1,0,none⟩)] W fun e w'=>e=.returned (dm (FP.run s).2)∧ShIs w' gs gm (FP.run s).1∧Ch (fun k=>k=gs∨k=gm) W w')
  (hG:∀ k W s,ShIs W gs gm s→LK W→Calls Tryz.prog 90 #[.string (ap k),.pointer (some ⟨e0,0,none⟩),.pointer (some ⟨e1,0,none⟩)] W fun e w'=>e=.returned (dm ((GP k).run s).2)∧ShIs w' gs gm ((GP k).run s).1∧Ch (fun k=>k=gs∨k=gm) W w')
  (hW:∀ k W,LK W→Calls Tryz.prog 91 #[.string (ap k),.pointer (some ⟨e2,0,none⟩)] W fun e w'=>e=.returned (.bool (WN k))∧w'=W)
  (hLK:∀ A B,LK A→(∀ k,lo≤k→k<hi→B.heap[k]?=A.heap[k]?)→LK B)
  (w:World) (hL:LK w) (hhi:hi≤w.heap.size):
  SeqX F n Tryz.prog 133 #[.pointer (some ⟨b1,0,none⟩),.pointer (some ⟨b2,0,none⟩),.pointer (some ⟨b3,0,none⟩)] fC (vB gs gm) (qV gs gm FP GP) (qd WN) (tN WN) (KbO lo hi) N w:=by
 intro l J Jx W s0 hWb hSh hSt hY hJ0;have HSH:=hid hSh;have HST:=hid hSt;have HY:=hid hY;have HF:=hid hF;have HG:=hid hG;have HWN:=hid hW;have HBX:=hid hB;have HLK:=hid hLK;have HFZ:=hid hfz;have HGZ:=hid hgz;have HJ0:=hid hJ0;have hLW:=hLK _ W hL fun k h1 h2=>hWb.block k (by omega)
 have HLW:=hid hLW;have HCO:=hid hco;have hsw:=hWb.size;have hgh1:=hgh.1;have hgh2:=hgh.2;have HS0:=hid (show ShIs W gs gm s0.s from (hSh s0 [] W hJ0).1);have HN0:=hid (hSh s0 [] W hJ0).2;obtain ⟨x1,x2,x3⟩:=hB W hLW;have c1:=x1.cell;have d1:=x1.lt;clear hSh hSt hY hF hG hW hB hLK hfz hgz hJ0 hLW hco x1 x2 x3 hgh;refine callsIn_of_wp Tryz.func133 rfl (hfn _) ?_ hro;simp only [Tryz.ntmps133,List.size_toArray,List.length_cons,List.length_nil,Nat.reduceAdd,Nat.reduceSub,Array.replicate_succ,Array.replicate_zero,List.push_toArray,List.append_toArray,List.nil_append,List.cons_append];gi_wp2;refine (HCO.out _ _ _ _ _ (HF.out W s0.s HS0.out HLW.out)).mono ?_;rintro e w1 ⟨rfl,hs,hc⟩;have hnz:=fun x=>Pro.NZ.run FP s0.s x HFZ.out
 obtain ⟨⟨s1,a⟩,hx⟩:∃ x,FP.run s0.s=x:=⟨_,rfl⟩;rw [hx] at hs hnz ⊢;have HX:=hid hx;have HS1:=hid hs;have HC1:=hid hc;have HNZ:=hid hnz;clear hx hs hc hnz c1 d1;have hs1:=HC1.out.size;unfold dm;gi_wp2;generalize hpa:bQ a=pa;generalize hia:fA a=ia;generalize hea:fB a=ea;gi_loopg [6,7] N (fun k s6 s7 wr=>∃ (pre:List (Pr × Int)) (t:Ov),s6=.bool (fA t.a)∧s7=.int .i64 (fB t.a)∧J t pre wr∧t.g=some w1.heap.size∧wr.heap[w1.heap.size]?=some (dj (bQ t.a))∧LK wr∧(∀ x,t.a=.err x→x≠0)∧k+pre.length=N∧hi≤wr.heap.size∧(∀ y ∈ pre,y.2=0))
 case atStart=>
  subst hpa hia hea;have hca:=Ch.alloc HC1.out (dj (bQ a));refine ⟨[],⟨s1,some w1.heap.size,a⟩,rfl,rfl,HST.out s0 [] W _ _ HJ0.out ⟨by rw [mp];exact HX.out,HS1.out.ch (S:=fun _=>False) (Ch.alloc (Ch.refl _ w1) _) id id,w1.heap.size,rfl,.inr hs1,by simp,hca.mono fun k _ h=>h.elim .inl (fun h=>.inr (.inl h))⟩,rfl,ag rfl,?_,HNZ.out,rfl,?_,fun y hy=>absurd hy List.not_mem_nil⟩
  ·exact HLK.out W _ HLW.out fun k h1 h2=>hca.block k (by omega) (by rintro (rfl | rfl);exact hgs ⟨h1,h2⟩;exact hgm ⟨h1,h2⟩)
  ·have:=hca.size;exact Nat.le_trans (by omega) this
 case round=>
  clear hpa hia hea;obtain ⟨pre,⟨s2,g2,a2⟩,rfl,rfl,hj,hg,hb,hlk,hnz,hk,hih,hz⟩:=hrel;dsimp only at hg hb hnz ⊢;subst hg;have HJ:=hid hj;have HZ:=hid hz;have HB:=hid hb;have HLW2:=hid hlk;have HSN:=HSH.out _ _ _ hj;have HS2:=hid HSN.1;have HPL:=hid HSN.2;have hgl:=aj hb;clear HSN hb hlk hj hz HX HS1 HC1 HNZ HJ0;rcases a2 with (_ | p) | x
  ·dsimp only [fA,fB,bQ] at HB ⊢;gi_wp2;refine bodyPost_ret (results_none rfl _ _ _) rfl ?_;exact ⟨⟨_,rfl⟩,.inl ⟨_,pre,HJ.out,.inl rfl⟩⟩
  ·dsimp only [fA,fB,bQ] at HB ⊢;obtain ⟨x1,x2,x3⟩:=HBX.out wr HLW2.out;have c2:=x2.cell;have d2:=x2.lt;obtain ⟨p0,p1,p2,p3,p4⟩:=ak HB.out;clear x1 x2 x3;gi_wp2;refine (HCO.out _ _ _ _ _ (HWN.out p.1 wr HLW2.out)).mono ?_;rintro e w2 ⟨rfl,rfl⟩;cases hw:WN p.1
   ·gi_wp2;refine bodyPost_ret (results_none rfl _ _ _) rfl ?_;exact ⟨⟨_,rfl⟩,.inl ⟨_,pre,HJ.out,.inr (.inl ⟨p,rfl,hw⟩)⟩⟩
   ·obtain ⟨fn,tmps,assign,body,hy,hR⟩:=HY.out _ pre (p,0) _ HJ.out ⟨HZ.out,.inl ⟨p,rfl,hw,rfl⟩⟩;dsimp only [fC] at hy;gi_wp2;refine hR.mono ?_;rintro e W3 (⟨rfl,t3,hj3,hkb⟩ | ⟨rfl,hjx⟩)
    ·have hb3:W3.heap[w1.heap.size]?=some (dj p):=(hkb.2.2 _ (.inr rfl) hgl).trans HB.out;have hl3:LK W3:=HLK.out _ W3 HLW2.out fun k h1 h2=>hkb.2.2 k (.inl ⟨h1,h2⟩) (by omega)
     have hg3:t3.g=some w1.heap.size:=hkb.1;have hs3:=hkb.2.1;have HSN:=HSH.out _ _ _ hj3;have HS3:=hid HSN.1;have hpl3:=HSN.2;rw [List.length_append] at hpl3;dsimp only [List.length_cons,List.length_nil] at hpl3;have HJ3:=hid hj3;have HL3:=hid hl3;have HB3:=hid hb3;have HG3:=hid hg3;obtain ⟨x1,x2,x3⟩:=HBX.out W3 hl3;have c3:=x3.cell;have d3:=x3.lt;clear hb3 hl3 hkb HSN hj3 x1 x2 x3 c2 d2 p0 p1 p2 p3 p4 hy hR hg3;obtain ⟨p0,p1,p2,p3,p4⟩:=ak HB3.out;gi_wp2;refine (HCO.out _ _ _ _ _ (HG.out p.1 W3 t3.s HS3.out HL3.out)).mono ?_;rintro e w5 ⟨rfl,hs,hc⟩;have hnz5:=fun x=>Pro.NZ.run (GP p.1) t3.s x (HGZ.out p.1)
     obtain ⟨⟨s5,a5⟩,hx⟩:∃ x,(GP p.1).run t3.s=x:=⟨_,rfl⟩;rw [hx] at hs hnz5 ⊢;have HX5:=hid hx;have HS5:=hid hs;have HC5:=hid hc;have HN5:=hid hnz5;have HB5:=hid (hc.keep HB3.out (by rintro (h | h) <;> omega));have hs5:=hc.size;clear hx hs hc hnz5 c3 d3 p0 p1 p2 p3 p4;obtain ⟨p0,p1,p2,p3,p4⟩:=ak HB5.out;unfold dm;gi_wp2;gi_roundg (gk - 1)
     case rel=>
      have hca:=(HC5.out.mono (S':=fun k=>k=gs∨k=gm∨k=w1.heap.size) (fun k _ h=>h.elim .inl (fun h=>.inr (.inl h)))).trans (aN (S:=fun k=>k=gs∨k=gm∨k=w1.heap.size) (Ch.refl _ w5) (.inr (.inr rfl)) (.string (ap (bQ a5).1)) (.string (ap (bQ a5).2)))
      refine ⟨pre ++ [(p,0)],⟨s5,some w1.heap.size,a5⟩,rfl,rfl,HST.out t3 _ W3 _ _ HJ3.out ⟨by rw [iG];exact HX5.out,HS5.out.ch (aN (S:=fun k=>k=w1.heap.size) (Ch.refl _ w5) rfl _ _) (by omega) (by omega),w1.heap.size,rfl,.inl HG3.out,Nat.lt_of_lt_of_le (Nat.lt_of_lt_of_le hgl hs3) hca.size,hca⟩,rfl,aS HB5.out _,?_,HN5.out,by rw [List.length_append];dsimp only [List.length_cons,List.length_nil];omega,?_,fun y hy=>by
       rcases List.mem_append.1 hy with hy | hy
       ·exact HZ.out y hy
       ·rw [List.mem_singleton.1 hy]⟩
      ·exact HLK.out W3 _ HL3.out fun k h1 h2=>hca.block k (by omega) (by rintro (rfl | rfl | rfl);exact hgs ⟨h1,h2⟩;exact hgm ⟨h1,h2⟩;omega)
      ·exact Nat.le_trans (by omega) hca.size
     case measure=>omega
    ·gi_wp2;refine bodyPost_ret (results_none rfl _ _ _) rfl ?_;exact ⟨⟨_,rfl⟩,.inr ⟨_,hjx⟩⟩
  ·dsimp only [fA,fB,bQ] at HB ⊢;have hx0:¬ x=0:=hnz x rfl;have hx1:(x == 0)=false:=by simpa using hx0
   obtain ⟨fn,tmps,assign,body,hy,hR⟩:=HY.out _ pre (([],[]),x) wr HJ.out ⟨HZ.out,.inr ⟨x,rfl,hx0,rfl⟩⟩;dsimp only [fC] at hy;rw [show ap []=⟨#[]⟩ from rfl] at hy;gi_wp2;refine hR.mono ?_;rintro e W3 (⟨rfl,t3,hj3,hkb⟩ | ⟨rfl,hjx⟩)
   ·gi_wp2;refine bodyPost_ret (results_none rfl _ _ _) rfl ?_;exact ⟨⟨_,rfl⟩,.inl ⟨t3,_,hj3,.inr (.inr ⟨pre,x,rfl,hx0⟩)⟩⟩
   ·gi_wp2;refine bodyPost_ret (results_none rfl _ _ _) rfl ?_;exact ⟨⟨_,rfl⟩,.inr ⟨_,hjx⟩⟩
end Go.Proofs.YtknioodagnjchaaGreatDoor
namespace Go.Proofs.YtknioodagnjchaaGreatDoor
open Go.Lib (hid)
open Go.RowKit
def eu (high:By) (at_:Int):Pro (Option Pr):=if high.isEmpty then au lastK 20 at_ else au (kE high true) 20 at_
theorem rK (high:By) (at_:Int) (b2 b0 b1 gs gm:Nat) (s:Sf) (w:World) (hS:ShIs w gs gm s) (hR:RdK gs at_ b0 b1 w) (hL:Bx w b2 9 (.string (ap high))):Calls Tryz.prog 89 #[.pointer (some ⟨b2,0,none⟩),.pointer (some ⟨b0,0,none⟩),.pointer (some ⟨b1,0,none⟩)] w fun e w'=>e=.returned (dm ((eu high at_).run s).2)∧ShIs w' gs gm ((eu high at_).run s).1∧Ch (fun k=>k=gs∨k=gm) w w':=by
 have hgs:=aj hS.blk;have hgm:=hS.book.lt;have HW1:=hid ((Below.refl _ w).alloc (Nat.le_refl _) (dj ([],[])));have HP1:=hid (ag (w0:=w) (g:=w.heap.size) (o:=dj ([],[])) rfl);have HS1:=hid (hS.ch (S:=fun _=>False) (Ch.of_below HW1.out) id id);have HR1:=hid (hR.keep HW1.out);have HL1:=hid (hL.keep HW1.out);clear hS hR hL;go_enter Tryz.func89,Tryz.ntmps89;go_upto_region 1 with fail
 generalize hw1:w.alloc (.cells #[.string ⟨#[]⟩,.string ⟨#[]⟩] 62)=w1 at *;have hw2:w.alloc (dj ([],[]))=w1:=hw1;rw [hw2] at HW1 HP1 HS1 HR1 HL1;clear hw1 hw2;have l0:=HL1.out.cell;have l1:=HL1.out.lt;cases high with
 | nil=>
   have he:(ap []).toList=[]:=aL [];have HFN:=hid (show Calls Tryz.prog 38 #[bt gs,.int .i64 at_] w1 fun e w'=>e=.returned (dm ((eu [] at_).run s).2)∧ShIs w' gs gm ((eu [] at_).run s).1∧Ch (fun k=>k=gs∨k=gm) w1 w' from lV at_ gs gm s w1 HS1.out);obtain ⟨⟨s4,a⟩,hx⟩:∃ x,(eu [] at_).run s=x:=⟨_,rfl⟩;rw [hx] at HFN;have HX0:=hid hx;clear hx;unfold bt at HFN;have r0:=HR1.out.bp.cell;unfold bt at r0;have r1:=HR1.out.br.cell;have r2:=HR1.out.bp.lt;have r3:=HR1.out.br.lt;go_wp2_with fail;refine HFN.out.mono ?_;rintro e w4 ⟨rfl,hs,hc⟩;have HP4:=hid (hc.keep HP1.out (by omega));have HS4:=hid hs;have hsz4:=hc.size;have HC4:=hid ((Ch.of_below (S:=fun k=>k=gs∨k=gm) HW1.out).trans hc);clear hs hc r0 r1 r2 r3 l0 l1;obtain ⟨p0,p1,p2,p3,p4⟩:=ak HP4.out;unfold dm;go_wp2_with fail;have hf:=aS HP4.out (bQ a);obtain ⟨z0,z1,-,-,-⟩:=ak hf;have HC0:=aN (S:=fun j=>j=w.heap.size) (Ch.refl _ w4) rfl (.string (ap (bQ a).1)) (.string (ap (bQ a).2))
   exact bodyPost_ret (v:=dm a) (by simp [results,Tryz.results89,go_sem,dm,z0,z1]) rfl
    ⟨by rw [HX0.out],by rw [HX0.out];exact HS4.out.ch HC0 (by omega) (by omega),HC4.out.then HC0 (fun i hi=>.inr (by omega))⟩
 | cons c l=>
   have he:((ap (c :: l)).toList == [])=false:=by rw [aL];rfl
   have he2:¬ (ap (c :: l)).toList=[]:=by rw [aL];simp
   have HFN:=hid (show Calls Tryz.prog 36 #[bt gs,.int .i64 at_,.string (ap (c :: l)),.bool true] w1 fun e w'=>e=.returned (dm ((eu (c :: l) at_).run s).2)∧ShIs w' gs gm ((eu (c :: l) at_).run s).1∧Ch (fun k=>k=gs∨k=gm) w1 w' from mW (c :: l) true at_ gs gm s w1 HS1.out);obtain ⟨⟨s4,a⟩,hx⟩:∃ x,(eu (c :: l) at_).run s=x:=⟨_,rfl⟩;rw [hx] at HFN;have HX0:=hid hx;clear hx;unfold bt at HFN;have r0:=HR1.out.bp.cell;unfold bt at r0;have r1:=HR1.out.br.cell;have r2:=HR1.out.bp.lt;have r3:=HR1.out.br.lt;go_wp2_with fail;refine HFN.out.mono ?_;rintro e w4 ⟨rfl,hs,hc⟩;have HP4:=hid (hc.keep HP1.out (by omega));have HS4:=hid hs;have hsz4:=hc.size;have HC4:=hid ((Ch.of_below (S:=fun k=>k=gs∨k=gm) HW1.out).trans hc);clear hs hc r0 r1 r2 r3 l0 l1;obtain ⟨p0,p1,p2,p3,p4⟩:=ak HP4.out;unfold dm;go_wp2_with fail;have hf:=aS HP4.out (bQ a);obtain ⟨z0,z1,-,-,-⟩:=ak hf;have HC0:=aN (S:=fun j=>j=w.heap.size) (Ch.refl _ w4) rfl (.string (ap (bQ a).1)) (.string (ap (bQ a).2))
   exact bodyPost_ret (v:=dm a) (by simp [results,Tryz.results89,go_sem,dm,z0,z1]) rfl
    ⟨by rw [HX0.out],by rw [HX0.out];exact HS4.out.ch HC0 (by omega) (by omega),HC4.out.then HC0 (fun i hi=>.inr (by omega))⟩
structure UpK (gs:Nat) (at_:Int) (low high:By) (v1 v2 v3:Nat→Value) (B:Nat) (W:World):Prop where
 rd:RdK gs at_ B (B+1) W
 bl:Bx W (B+2) 9 (.string (ap low))
 bh:Bx W (B+3) 9 (.string (ap high))
 b1:Bx W (B+4) 143 (v1 B)
 b3:Bx W (B+5) 144 (v3 B)
 b2:Bx W (B+6) 146 (v2 B)
theorem Bx.same {W W':World} {g:Nat} {t:TypeId} {v:Value} (h:Bx W g t v) (e:W'.heap[g]?=W.heap[g]?):Bx W' g t v:=e.trans h
theorem UpK.same {gs:Nat} {at_:Int} {low high:By} {v1 v2 v3:Nat→Value} {B:Nat} {W W':World} (h:UpK gs at_ low high v1 v2 v3 B W) (e:∀ k,B≤k→k<B+7→W'.heap[k]?=W.heap[k]?):UpK gs at_ low high v1 v2 v3 B W':=
 ⟨⟨h.rd.bp.same (e _ (by omega) (by omega)),h.rd.br.same (e _ (by omega) (by omega))⟩,h.bl.same (e _ (by omega) (by omega)),h.bh.same (e _ (by omega) (by omega)),h.b1.same (e _ (by omega) (by omega)),h.b3.same (e _ (by omega) (by omega)),h.b2.same (e _ (by omega) (by omega))⟩
def uV (B:Nat):Value:=.func (.func 85) #[] #[.pointer (some ⟨B,0,none⟩),.pointer (some ⟨B+1,0,none⟩),.pointer (some ⟨B+2,0,none⟩)]
def uU (B:Nat):Value:=.func (.func 86) #[] #[.pointer (some ⟨B,0,none⟩),.pointer (some ⟨B+1,0,none⟩)]
def uT (B:Nat):Value:=.func (.func 87) #[] #[.pointer (some ⟨B+3,0,none⟩)]
def pW (B:Nat):Value:=.func (.func 89) #[] #[.pointer (some ⟨B+3,0,none⟩),.pointer (some ⟨B,0,none⟩),.pointer (some ⟨B+1,0,none⟩)]
def pV (B:Nat):Value:=.func (.func 90) #[] #[.pointer (some ⟨B,0,none⟩),.pointer (some ⟨B+1,0,none⟩)]
def pU (B:Nat):Value:=.func (.func 91) #[] #[.pointer (some ⟨B+2,0,none⟩)]
def ua (B:Nat):Value:=.func (.func 133) #[] #[.pointer (some ⟨B+4,0,none⟩),.pointer (some ⟨B+6,0,none⟩),.pointer (some ⟨B+5,0,none⟩)]
theorem lU (f1 f2 f3:Fn) (a1 a2 a3 c1 c2 c3:Array Value) (w:World):Calls Tryz.prog 84 #[.func f1 a1 c1,.func f3 a3 c3,.func f2 a2 c2] w fun e w'=>e=.returned (.func (.func 133) #[] #[.pointer (some ⟨w.heap.size,0,none⟩),.pointer (some ⟨w.heap.size+2,0,none⟩),.pointer (some ⟨w.heap.size+1,0,none⟩)])∧Bx w' w.heap.size 143 (.func f1 a1 c1)∧Bx w' (w.heap.size+1) 144 (.func f3 a3 c3)∧Bx w' (w.heap.size+2) 146 (.func f2 a2 c2)∧Below w.heap.size w w'∧w'.heap.size=w.heap.size+3:=by go_enter Tryz.func84,Tryz.ntmps84;go_wp2_with fail;go_ret;exact ⟨rfl,ai (ai (ag rfl) _) _,ai (ag (by simp)) _,ag (by simp),((((Below.refl _ w).alloc (Nat.le_refl _) _).alloc (by simp) _).alloc (by simp;omega) _),by simp⟩
theorem tQ (gs:Nat) (at_:Int) (low high:By) (w:World):Calls Tryz.prog 42 #[bt gs,.int .i64 at_,.string (ap low),.string (ap high)] w fun e w'=>e=.returned (ua w.heap.size)∧UpK gs at_ low high uV uT uU w.heap.size w'∧Below w.heap.size w w'∧w'.heap.size=w.heap.size+7:=by
 unfold bt;go_enter Tryz.func42,Tryz.ntmps42;go_wp2_with fail;refine (lU _ _ _ _ _ _ _ _ _ _).mono ?_;rintro e w2 ⟨rfl,x1,x2,x3,hb,hsz⟩;go_wp2_with fail;go_ret;simp only [World.size_alloc,Nat.add_assoc,Nat.reduceAdd] at x1 x2 x3 hsz;refine ⟨by simp [ua],⟨⟨?_,?_⟩,?_,?_,x1,x2,x3⟩,?_,hsz⟩
 ·exact ab (ai (ai (ai (ag rfl) _) _) _) hb
 ·exact ab (ai (ai (ag (by simp)) _) _) hb
 ·exact ab (ai (ag (by simp)) _) hb
 ·exact ab (ag (by simp)) hb
 ·exact (((((Below.refl _ w).alloc (Nat.le_refl _) _).alloc (by simp) _).alloc (by simp;omega) _).alloc (by simp;omega) _).trans (hb.mono (by simp;omega))
theorem lW (gs:Nat) (at_:Int) (low high:By) (w:World):Calls Tryz.prog 43 #[bt gs,.int .i64 at_,.string (ap low),.string (ap high)] w fun e w'=>e=.returned (ua w.heap.size)∧UpK gs at_ low high pW pU pV w.heap.size w'∧Below w.heap.size w w'∧w'.heap.size=w.heap.size+7:=by
 unfold bt;go_enter Tryz.func43,Tryz.ntmps43;go_wp2_with fail;refine (lU _ _ _ _ _ _ _ _ _ _).mono ?_;rintro e w2 ⟨rfl,x1,x2,x3,hb,hsz⟩;go_wp2_with fail;go_ret;simp only [World.size_alloc,Nat.add_assoc,Nat.reduceAdd] at x1 x2 x3 hsz;refine ⟨by simp [ua],⟨⟨?_,?_⟩,?_,?_,x1,x2,x3⟩,?_,hsz⟩
 ·exact ab (ai (ai (ai (ag rfl) _) _) _) hb
 ·exact ab (ai (ai (ag (by simp)) _) _) hb
 ·exact ab (ai (ag (by simp)) _) hb
 ·exact ab (ag (by simp)) hb
 ·exact (((((Below.refl _ w).alloc (Nat.le_refl _) _).alloc (by simp) _).alloc (by simp;omega) _).alloc (by simp;omega) _).trans (hb.mono (by simp;omega))
theorem ti (high:By) (at_:Int):(eu high at_).NZ:=by
 unfold eu
 split
 ·exact dK _ _ _
 ·exact dK _ _ _
theorem uS (F:Fence) (n:Nat) (hfn:∀ f,F.fn f) (hro:F.round=none) (hn:1≤n)
  (hco:∀ (f:FuncId) (m:Nat) (args:Array Value) (W:World) (Q:Ending→World→Prop),Calls Tryz.prog f args W Q→CallsIn F m Tryz.prog f args W Q)
  (gs gm N:Nat) (at_:Int) (low high:By) (B:Nat) (hg:gs<B∧gm<B) (w:World) (hL:UpK gs at_ low high uV uT uU B w) (hhi:B+7≤w.heap.size):
  SeqX F n Tryz.prog 133 #[.pointer (some ⟨B+4,0,none⟩),.pointer (some ⟨B+6,0,none⟩),.pointer (some ⟨B+5,0,none⟩)] fC (vB gs gm) (qV gs gm (au (cY low false) 20 at_) (fun k=>au (cY k true) 20 at_)) (qd (v6 high)) (tN (v6 high)) (KbO B (B+7)) N w:=
 t8 F n hfn hro hn hco B (B+7) (B+4) (B+6) (B+5) gs gm N B (B+1) (B+2) (B+3) (UpK gs at_ low high uV uT uU B) _ _ _ (dK _ _ _) (fun k=>dK _ _ _)
  (by omega) (by omega) (by omega) (fun W h=>⟨h.b1,h.b2,h.b3⟩) (fun W s hS h=>tT low at_ B (B+1) (B+2) gs gm s W hS h.rd h.bl) (fun k W s hS h=>tS k at_ B (B+1) gs gm s W hS h.rd) (fun k W h=>tR high k (B+3) W h.bh)
  (fun A B' h e=>h.same e) w hL hhi
theorem oQ (F:Fence) (n:Nat) (hfn:∀ f,F.fn f) (hro:F.round=none) (hn:1≤n)
  (hco:∀ (f:FuncId) (m:Nat) (args:Array Value) (W:World) (Q:Ending→World→Prop),Calls Tryz.prog f args W Q→CallsIn F m Tryz.prog f args W Q)
  (gs gm N:Nat) (at_:Int) (low high:By) (B:Nat) (hg:gs<B∧gm<B) (w:World) (hL:UpK gs at_ low high pW pU pV B w) (hhi:B+7≤w.heap.size):
  SeqX F n Tryz.prog 133 #[.pointer (some ⟨B+4,0,none⟩),.pointer (some ⟨B+6,0,none⟩),.pointer (some ⟨B+5,0,none⟩)] fC (vB gs gm) (qV gs gm (eu high at_) (fun k=>au (kE k true) 20 at_)) (qd (fun k=>!aU k low)) (tN (fun k=>!aU k low)) (KbO B (B+7)) N w:=
 rn F n hfn hro hn hco B (B+7) (B+4) (B+6) (B+5) gs gm N B (B+1) (B+2) (B+3) (UpK gs at_ low high pW pU pV B) _ _ _ (ti high at_) (fun k=>dK _ _ _)
  (by omega) (by omega) (by omega) (fun W h=>⟨h.b1,h.b2,h.b3⟩) (fun W s hS h=>rK high at_ (B+3) B (B+1) gs gm s W hS h.rd h.bh) (fun k W s hS h=>rJ k at_ B (B+1) gs gm s W hS h.rd) (fun k W h=>rI low k (B+2) W h.bl)
  (fun A B' h e=>h.same e) w hL hhi
end Go.Proofs.YtknioodagnjchaaGreatDoor
